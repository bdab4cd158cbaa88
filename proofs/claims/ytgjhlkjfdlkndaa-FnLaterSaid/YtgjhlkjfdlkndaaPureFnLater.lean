/- A drawn right pattern that is moved by 0 to 40 days runs on each day just when it ran so many days ahead; its next run moves with it, and moved back it is as it was. -/
import Derived.Test.YtgjhlkjfdlkndaaRowFnLater
namespace Go.Proofs.Ytgjhlkjfdlkndaa.Pure
open Go.RowKit Go.Proofs.Ytgjhlkjfdlkndaa.PFnLater Go.Proofs.YtgjhlkjfdlkndaaW.PrintWords Go.Proofs.YtgjhlkjfdlkndaaW.PrintLast Go.Proofs.YtgjhlkjfdlkndaaW.PrintMore
set_option linter.unusedVariables false
set_option linter.unusedSimpArgs false
theorem w64 {x : Int} (h0 : -9223372036854775808 ≤ x) (h1 : x ≤ 9223372036854775807) : wrap64 x = x := by unfold wrap64; omega
theorem ev_k {α : Type} {g : Nat → Option α} {r : α} (h : ∀ k, g k = some r) : Ev g r := ⟨0, fun k _ => h k⟩
theorem ev_some {α : Type} {r : α} : Ev (fun _ => some r) r := Ev.now r
theorem wf_i64 {x : Int} (h : (Lit.int .i64 x).wf = true) : -9223372036854775808 ≤ x ∧ x ≤ 9223372036854775807 := by
  simp only [Lit.wf, Bool.and_eq_true, decide_eq_true_eq] at h
  have h1 : IntKind.min .i64 = -9223372036854775808 := by decide
  have h2 : IntKind.max .i64 = 9223372036854775807 := by decide
  omega
theorem wf_u8 {x : Int} (h : (Lit.int .u8 x).wf = true) : 0 ≤ x ∧ x ≤ 255 := by
  simp only [Lit.wf, Bool.and_eq_true, decide_eq_true_eq] at h
  have h1 : IntKind.min .u8 = 0 := by decide
  have h2 : IntKind.max .u8 = 255 := by decide
  omega
/-! Loops over lists, whatever the elements. -/
theorem nat_w {j : Nat} (h : j ≤ 9223372036854775806) : wrap64 ((j : Int) + 1) = ((j + 1 : Nat) : Int) := by rw [w64 (by omega) (by omega)]; omega
theorem set_take {α : Type} {acc ys : List α} {j : Nat} (hl : acc.length = ys.length) (ht : acc.take j = ys.take j) (hj : j < ys.length) {v : α} (hv : ys[j]? = some v) : (acc.set j v).take (j + 1) = ys.take (j + 1) := by
  apply List.ext_getElem?
  intro i
  by_cases hi : i < j + 1
  · rw [List.getElem?_take_of_lt hi, List.getElem?_take_of_lt hi]
    by_cases e : i = j
    · subst e
      rw [List.getElem?_set_self (by omega), hv]
    · rw [List.getElem?_set_ne (by omega)]
      have h1 := congrArg (fun l => l[i]?) ht
      simp only [List.getElem?_take_of_lt (show i < j by omega)] at h1
      exact h1
  · rw [List.getElem?_eq_none (by simp; omega), List.getElem?_eq_none (by simp; omega)]
theorem getD_some {α : Type} {xs : List α} {j : Nat} (h : j < xs.length) (d : α) : xs[j]? = some (xs.getD j d) := by
  rw [List.getD_eq_getElem?_getD, List.getElem?_eq_getElem h]; rfl
/-- A loop that writes g of each element of xs into a row of the same length. -/
theorem copy_loop {α β : Type} (g : β → α) (d : β) (xs : List β) (L : Nat → List α → Int → Option (List α)) (hn : xs.length ≤ 9223372036854775806)
    (hs : ∀ k acc (j : Nat), L (k + 1) acc (j : Int) = if j < xs.length then (if j < acc.length then L k (acc.set j (g (xs.getD j d))) (wrap64 ((j : Int) + 1)) else none) else some acc)
    (m : Nat) : ∀ (j : Nat) (acc : List α), xs.length - j = m → j ≤ xs.length → acc.length = xs.length → acc.take j = (xs.map g).take j → Ev (fun k => L k acc (j : Int)) (xs.map g) := by
  induction m with
  | zero =>
    intro j acc h0 h1 h2 h3
    refine Ev.step (fun k => hs k acc j) ?_
    simp only [if_neg (show ¬ j < xs.length by omega)]
    have e : acc = xs.map g := by
      have h4 : acc.take j = acc := List.take_of_length_le (by omega)
      have h5 : (xs.map g).take j = xs.map g := List.take_of_length_le (by simp; omega)
      rw [← h4, h3, h5]
    rw [e]
    exact ev_some
  | succ m ih =>
    intro j acc h0 h1 h2 h3
    refine Ev.step (fun k => hs k acc j) ?_
    simp only [if_pos (show j < xs.length by omega), if_pos (show j < acc.length by omega)]
    rw [nat_w (by omega)]
    refine ih (j + 1) _ (by omega) (by omega) (by simpa using h2) ?_
    refine set_take (by simpa using h2) h3 (by simp; omega) ?_
    rw [List.getElem?_map, getD_some (show j < xs.length by omega) d]
    rfl
/-- A loop that asks each index, and goes on where the answer is yes. -/
theorem all_loop (n : Nat) (L : Nat → Int → Option Bool) (hn : n ≤ 9223372036854775806) (hs : ∀ k (j : Nat), j < n → L (k + 1) (j : Int) = L k (wrap64 ((j : Int) + 1))) (he : ∀ k, L (k + 1) (n : Int) = some true)
    (m : Nat) : ∀ j : Nat, n - j = m → j ≤ n → Ev (fun k => L k (j : Int)) true := by
  induction m with
  | zero =>
    intro j h0 h1
    obtain rfl : j = n := by omega
    exact Ev.step (fun k => he k) ev_some
  | succ m ih =>
    intro j h0 h1
    refine Ev.step (fun k => hs k j (by omega)) ?_
    rw [nat_w (by omega)]
    exact ih (j + 1) (by omega) (by omega)
/-- The elements one behind the other, each turned by f with a number that goes on by c. -/
def marked {α : Type} (c : Int) (f : Int → α → α) : Int → List α → List α
  | _, [] => []
  | s, x :: xs => f s x :: marked c f (s + c) xs
theorem marked_length {α : Type} (c : Int) (f : Int → α → α) : ∀ (s : Int) (xs : List α), (marked c f s xs).length = xs.length
  | _, [] => rfl
  | s, x :: xs => by simp [marked, marked_length c f (s + c) xs]
theorem marked_at {α : Type} (c : Int) (f : Int → α → α) : ∀ (s : Int) (xs : List α) (j : Nat) (d : α), j < xs.length → (marked c f s xs)[j]? = some (f (s + c * j) (xs.getD j d))
  | _, [], j, d, h => by simp at h
  | s, x :: xs, 0, d, _ => by simp [marked]
  | s, x :: xs, j + 1, d, h => by
    have := marked_at c f (s + c) xs j d (by simpa using h)
    simp only [marked, List.getElem?_cons_succ, List.getD_cons_succ]
    rw [this]
    congr 2
    rw [Int.natCast_succ, Int.mul_add]; omega
/-- A loop that marks a row. -/
theorem mark_loop {α : Type} (c : Nat) (hc : c ≤ 8) (f : Int → α → α) (d : α) (xs : List α) (L : Nat → List α → Int → Int → Option (Int × List α)) (hn : xs.length ≤ 2000000) (s0 : Nat) (hs0 : s0 ≤ 20000000)
    (hs : ∀ k acc (s : Nat) (j : Nat), acc.length = xs.length → s ≤ 40000000 → j < xs.length → L (k + 1) acc (s : Int) (j : Int) = L k (acc.set j (f (s : Int) (acc.getD j d))) ((s + c : Nat) : Int) (wrap64 ((j : Int) + 1)))
    (he : ∀ k acc (s : Int), acc.length = xs.length → L (k + 1) acc s (xs.length : Int) = some (s, acc))
    (m : Nat) : ∀ (j : Nat) (acc : List α), xs.length - j = m → j ≤ xs.length → acc.length = xs.length → acc.take j = (marked c f s0 xs).take j → acc.drop j = xs.drop j → Ev (fun k => L k acc ((s0 + c * j : Nat) : Int) (j : Int)) (((s0 + c * xs.length : Nat) : Int), marked c f s0 xs) := by
  induction m with
  | zero =>
    intro j acc h0 h1 h2 h3 _
    obtain rfl : j = xs.length := by omega
    refine Ev.step (fun k => he k acc _ h2) ?_
    have e : acc = marked c f s0 xs := by
      have h4 : acc.take xs.length = acc := List.take_of_length_le (by omega)
      have h5 : (marked c f s0 xs).take xs.length = marked c f s0 xs := List.take_of_length_le (by rw [marked_length]; omega)
      rw [← h4, h3, h5]
    rw [e]
    exact ev_some
  | succ m ih =>
    intro j acc h0 h1 h2 h3 h4
    have hb : c * j ≤ 8 * 2000000 := Nat.mul_le_mul hc (by omega)
    refine Ev.step (fun k => hs k acc _ j h2 (by omega) (by omega)) ?_
    rw [nat_w (by omega), show s0 + c * j + c = s0 + c * (j + 1) by rw [Nat.mul_add]; omega]
    have hg : acc.getD j d = xs.getD j d := by
      have h5 := congrArg (fun l => l[0]?) h4
      simp only [List.getElem?_drop, Nat.add_zero] at h5
      rw [List.getD_eq_getElem?_getD, List.getD_eq_getElem?_getD, h5]
    refine ih (j + 1) _ (by omega) (by omega) (by simpa using h2) ?_ ?_
    · refine set_take (by rw [marked_length]; exact h2) h3 (by rw [marked_length]; omega) ?_
      rw [marked_at c f s0 xs j d (by omega), hg]
      simp
    · rw [List.drop_set_of_lt (by omega), ← List.drop_drop, h4, List.drop_drop]
/-- A loop that looks whether a row is marked so. -/
theorem held_loop (c : Nat) (hc : c ≤ 8) (n : Nat) (L : Nat → Int → Int → Option Int) (hn : n ≤ 2000000) (s0 : Nat) (hs0 : s0 ≤ 20000000)
    (hs : ∀ k (j : Nat), j < n → L (k + 1) ((s0 + c * j : Nat) : Int) (j : Int) = L k ((s0 + c * j + c : Nat) : Int) (wrap64 ((j : Int) + 1)))
    (he : ∀ k (s : Int), L (k + 1) s (n : Int) = some s)
    (m : Nat) : ∀ j : Nat, n - j = m → j ≤ n → Ev (fun k => L k ((s0 + c * j : Nat) : Int) (j : Int)) (((s0 + c * n : Nat) : Int)) := by
  induction m with
  | zero =>
    intro j h0 h1
    obtain rfl : j = n := by omega
    exact Ev.step (fun k => he k _) ev_some
  | succ m ih =>
    intro j h0 h1
    refine Ev.step (fun k => hs k j (by omega)) ?_
    rw [nat_w (by omega), show s0 + c * j + c = s0 + c * (j + 1) by rw [Nat.mul_add]; omega]
    exact ih (j + 1) (by omega) (by omega)
theorem drop_cons {α : Type} {xs : List α} {j : Nat} {t : α} {rest : List α} (h : xs.drop j = t :: rest) : j < xs.length ∧ (∀ d, xs.getD j d = t) ∧ xs.drop (j + 1) = rest := by
  have hj : j < xs.length := by
    rcases Nat.lt_or_ge j xs.length with h1 | h1
    · exact h1
    · rw [List.drop_of_length_le h1] at h; cases h
  rw [List.drop_eq_getElem_cons hj] at h
  injection h with h1 h2
  exact ⟨hj, fun d => by rw [List.getD_eq_getElem?_getD, List.getElem?_eq_getElem hj, ← h1]; rfl, h2⟩
theorem drop_nil {α : Type} {xs : List α} {j : Nat} (h : xs.drop j = []) : xs.length ≤ j := by simpa using h
theorem rdI_at (xs : List Int) (j : Nat) : rd xs (j : Int) = xs.getD j 0 := by unfold rd; rw [Int.toNat_natCast]
theorem rdB_at (xs : List Bool) (j : Nat) : rdOf false xs (j : Int) = xs.getD j false := by unfold rdOf; rw [Int.toNat_natCast]
theorem spec_in (x lo hi : Int) : spec_l01In.f x lo hi = some (decide (lo ≤ x ∧ x ≤ hi)) := by
  unfold spec_l01In.f
  by_cases h : lo ≤ x <;> simp [h]
theorem impl_in (x lo hi : Int) : impl_between.f x lo hi = some (decide (lo ≤ x ∧ x ≤ hi)) := by
  unfold impl_between.f
  by_cases h : x ≥ lo
  · have h' : lo ≤ x := h
    simp [h, h']
  · have h' : ¬ lo ≤ x := h
    simp [h, h']
/-! Days and patterns. -/
def wk (w d : Int) : Bool := Go.bits .and .i64 (shr .i64 w (Int.tmod d 7)) 1 == 1
def prevOk (xs : List Int) (j : Nat) : Bool := j == 0 || decide (xs.getD (j - 1) 0 < xs.getD j 0)
def dayB (w f t : Int) (b : Bool) (xs : List Int) (j : Nat) (d : Int) : Bool := decide (f ≤ d ∧ d ≤ t) && prevOk xs j && (wk w d == b)
def daysB (w f t : Int) (b : Bool) (xs : List Int) : Nat → List Int → Bool
  | _, [] => true
  | j, d :: ds => dayB w f t b xs j d && daysB w f t b xs (j + 1) ds
def patB (w f t : Int) (ns al : List Int) : Bool :=
  decide (0 ≤ w ∧ w ≤ 127) && decide (0 ≤ f ∧ f ≤ t ∧ t ≤ 3650) && (decide (ns.length ≤ 20) && daysB w f t true ns 0 ns) && (decide (al.length ≤ 20) && daysB w f t false al 0 al)
def onB (w f t : Int) (ns al : List Int) (d : Int) : Bool := decide (f ≤ d ∧ d ≤ t) && (if wk w d = true then !decide (d ∈ ns) else decide (d ∈ al))
theorem daysB_all {w f t : Int} {b : Bool} {xs : List Int} : ∀ (l : List Int) (j : Nat), daysB w f t b xs j l = true → ∀ d ∈ l, (f ≤ d ∧ d ≤ t) ∧ wk w d = b
  | [], _, _, d, h => by cases h
  | x :: l, j, h, d, hd => by
    simp only [daysB, dayB, Bool.and_eq_true, decide_eq_true_eq, beq_iff_eq] at h
    rcases List.mem_cons.mp hd with rfl | h2
    · exact ⟨h.1.1.1, h.1.2⟩
    · exact daysB_all l (j + 1) h.2 d h2
/-- One weekday moved by r days. -/
def stI (w r : Int) (a : Int) (k : Nat) : Int := if Go.bits .and .i64 (shr .i64 w (k : Int)) 1 = 1 then Go.bits .or .i64 a (shl .i64 1 (((k : Int) + r) % 7)) else a
def stS (w r : Int) (a : Int) (k : Nat) : Int := if wk w (k : Int) = true then wrap64 (a + shl .i64 1 (((k : Int) + r) % 7)) else a
def weekI (w r : Int) : Int := (List.range 7).foldl (stI w r) 0
def weekS (w r : Int) : Int := (List.range 7).foldl (stS w r) 0
theorem chk_week : (List.range 128).all (fun w => (List.range 7).all (fun r => decide (weekI (w : Int) (r : Int) = weekS (w : Int) (r : Int)) && (decide (0 ≤ weekI (w : Int) (r : Int) ∧ weekI (w : Int) (r : Int) ≤ 127) && (List.range 7).all (fun d => wk (weekI (w : Int) (r : Int)) (((d : Int) + (r : Int)) % 7) == wk (w : Int) (d : Int))))) = true := by decide +kernel
theorem week_all {w r : Int} (h0 : 0 ≤ w) (h1 : w ≤ 127) (r0 : 0 ≤ r) (r1 : r < 7) : weekI w r = weekS w r ∧ (0 ≤ weekI w r ∧ weekI w r ≤ 127) ∧ ∀ d : Int, 0 ≤ d → d < 7 → wk (weekI w r) ((d + r) % 7) = wk w d := by
  have h := chk_week
  rw [List.all_eq_true] at h
  have h2 := h w.toNat (List.mem_range.2 (by omega))
  rw [List.all_eq_true] at h2
  have h3 := h2 r.toNat (List.mem_range.2 (by omega))
  rw [Int.toNat_of_nonneg h0, Int.toNat_of_nonneg r0] at h3
  simp only [Bool.and_eq_true, decide_eq_true_eq, List.all_eq_true, beq_iff_eq] at h3
  refine ⟨h3.1, h3.2.1, fun d d0 d1 => ?_⟩
  have h4 := h3.2.2 d.toNat (List.mem_range.2 (by omega))
  rw [Int.toNat_of_nonneg d0] at h4
  exact h4
def moved (n : Int) (l : List Int) : List Int := l.map (· + n)
abbrev Pat := Int × Int × Int × List Int × List Int
def latOk (w f t : Int) (ns al : List Int) (n : Int) : Prop := patB w f t ns al = true ∧ (-3650 ≤ n ∧ n ≤ 3650) ∧ 0 ≤ f + n ∧ t + n ≤ 3650
instance (w f t : Int) (ns al : List Int) (n : Int) : Decidable (latOk w f t ns al n) := by unfold latOk; infer_instance
def latR (w f t : Int) (ns al : List Int) (n : Int) : Pat := if latOk w f t ns al n then (weekI w (n % 7), f + n, t + n, moved n ns, moved n al) else (0, 0, 0, [], [])
theorem patB_len {w f t : Int} {ns al : List Int} (h : patB w f t ns al = true) : (0 ≤ w ∧ w ≤ 127) ∧ (0 ≤ f ∧ f ≤ t ∧ t ≤ 3650) ∧ (∀ d ∈ ns, f ≤ d ∧ d ≤ t) ∧ (∀ d ∈ al, f ≤ d ∧ d ≤ t) ∧ ns.length ≤ 20 ∧ al.length ≤ 20 := by
  simp only [patB, Bool.and_eq_true, decide_eq_true_eq] at h
  exact ⟨h.1.1.1, h.1.1.2, fun d hd => (daysB_all ns 0 h.1.2.2 d hd).1, fun d hd => (daysB_all al 0 h.2.2 d hd).1, h.1.2.1, h.2.1⟩
theorem latR_len (w f t : Int) (ns al : List Int) (n : Int) : (latR w f t ns al n).2.2.2.1.length ≤ 20 ∧ (latR w f t ns al n).2.2.2.2.length ≤ 20 := by
  unfold latR
  split
  · rename_i h
    obtain ⟨_, _, _, _, a, b⟩ := patB_len h.1
    simp only [moved, List.length_map]; exact ⟨a, b⟩
  · exact ⟨Nat.zero_le _, Nat.zero_le _⟩
theorem moved_step (n : Int) (l : List Int) (j : Nat) (h : j < l.length) : moved n (l.take (j + 1)) = moved n (l.take j) ++ [l.getD j 0 + n] := by
  unfold moved
  rw [List.take_add_one, List.getElem?_eq_getElem h, List.map_append, List.getD_eq_getElem?_getD, List.getElem?_eq_getElem h]; rfl
theorem fold_next (g : Int → Nat → Int) (j : Nat) : (List.range (j + 1)).foldl g 0 = g ((List.range j).foldl g 0) j := by
  rw [List.range_succ, List.foldl_append]; rfl
theorem impl_week_ev (w d : Int) (h0 : 0 ≤ d) : impl_inWeek.f w d = some (wk w d) := by
  have h7 : Int.tmod d 7 = d % 7 := Int.tmod_eq_emod_of_nonneg h0
  unfold impl_inWeek.f wk
  rw [if_pos (by rw [h7]; omega)]
theorem impl_days_loop (w f t : Int) (h0 : 0 ≤ f) (b : Bool) (xs ns al : List Int) (hn : xs.length ≤ 2000000) : ∀ (rest : List Int) (j : Nat), xs.drop j = rest → j ≤ xs.length →
    Ev (fun k => impl_daysOk.l0 k xs b xs (xs.length : Int) (j : Int) w f t ns al) (daysB w f t b xs j rest) := by
  intro rest
  induction rest with
  | nil =>
    intro j h hl
    have := drop_nil h
    refine Ev.step (fun k => by rw [impl_daysOk.l0]) ?_
    simp only [if_neg (show ¬ (j : Int) < (xs.length : Int) by omega), daysB]
    exact ev_some
  | cons d rest ih =>
    intro j h hl
    obtain ⟨h1, h2, h3⟩ := drop_cons h
    refine Ev.step (fun k => by rw [impl_daysOk.l0]) ?_
    simp only [if_pos (show (j : Int) < (xs.length : Int) by omega), if_pos (show 0 ≤ (j : Int) by omega), rdI_at, h2, impl_in, Option.bind_some, decide_eq_true_eq]
    by_cases c1 : f ≤ d ∧ d ≤ t
    · have hd : 0 ≤ d := by omega
      simp only [if_pos c1, impl_week_ev w d hd, Option.bind_some, nat_w (show j ≤ 9223372036854775806 by omega)]
      have hi := ih (j + 1) h3 (by omega)
      by_cases c2 : wk w d = b
      · have c3 : (wk w d != b) = false := by simpa using c2
        have e2 : (wk w d == b) = true := by simpa using c2
        simp only [c3, Bool.false_eq_true, if_false]
        by_cases c0 : j = 0
        · subst c0
          simp only [if_neg (show ¬ ((0 : Nat) : Int) > 0 by omega)]
          simpa [daysB, dayB, c1, e2, prevOk] using hi
        · simp only [if_pos (show (j : Int) > 0 by omega), show (j : Int) - 1 = ((j - 1 : Nat) : Int) by omega, w64 (x := ((j - 1 : Nat) : Int)) (by omega) (by omega), if_pos (show 0 ≤ ((j - 1 : Nat) : Int) by omega), if_pos (show ((j - 1 : Nat) : Int) < (xs.length : Int) by omega), rdI_at]
          by_cases c4 : xs.getD (j - 1) 0 ≥ d
          · simp only [if_pos c4]
            have e : prevOk xs j = false := by
              unfold prevOk; rw [h2]
              simp only [Bool.or_eq_false_iff, beq_eq_false_iff_ne, decide_eq_false_iff_not]
              exact ⟨c0, by omega⟩
            simp only [daysB, dayB, e, Bool.and_false, Bool.false_and]
            exact ev_some
          · simp only [if_neg c4]
            have e : prevOk xs j = true := by
              unfold prevOk; rw [h2]
              simp only [Bool.or_eq_true, decide_eq_true_eq]
              exact Or.inr (by omega)
            simpa [daysB, dayB, c1, e, e2] using hi
      · have c3 : (wk w d != b) = true := by simpa using c2
        simp only [c3, if_true]
        have e : (wk w d == b) = false := by simpa using c2
        simp only [daysB, dayB, e, Bool.and_false, Bool.false_and]
        exact ev_some
    · simp only [if_neg c1, daysB, dayB, decide_eq_false c1, Bool.false_and]
      exact ev_some
theorem impl_days_ev (w f t : Int) (h0 : 0 ≤ f) (b : Bool) (xs ns al : List Int) (hn : xs.length ≤ 2000000) : Ev (fun k => impl_daysOk.f k w f t ns al xs b) (decide (xs.length ≤ 20) && daysB w f t b xs 0 xs) := by
  unfold impl_daysOk.f
  by_cases c : (xs.length : Int) > 20
  · simp only [if_pos c]
    rw [decide_eq_false (show ¬ xs.length ≤ 20 by omega), Bool.false_and]
    exact ev_some
  · simp only [if_neg c]
    rw [decide_eq_true (show xs.length ≤ 20 by omega), Bool.true_and]
    exact impl_days_loop w f t h0 b xs ns al hn xs 0 rfl (by omega)
theorem impl_pat_ev (w f t : Int) (ns al : List Int) (hn : ns.length ≤ 2000000) (ha : al.length ≤ 2000000) : Ev (fun k => impl_PatternOk.f k w f t ns al) (patB w f t ns al) := by
  unfold impl_PatternOk.f patB
  simp only [impl_in, Option.bind_some, decide_eq_true_eq]
  have hno : ∀ r, r = false → Ev (fun k => impl_PatternOk.j0 k true w f t ns al) r := fun r hr => by
    rw [hr]
    exact Ev.step (fun k => by rw [impl_PatternOk.j0]) (by simpa using ev_some)
  by_cases c1 : 0 ≤ w ∧ w ≤ 127
  · simp only [if_pos c1]
    by_cases c2 : f < 0
    · simp only [if_pos c2]
      exact hno _ (by rw [decide_eq_false (show ¬ (0 ≤ f ∧ f ≤ t ∧ t ≤ 3650) by omega)]; simp)
    · by_cases c3 : f > t
      · simp only [if_neg c2, if_pos c3]
        exact hno _ (by rw [decide_eq_false (show ¬ (0 ≤ f ∧ f ≤ t ∧ t ≤ 3650) by omega)]; simp)
      · by_cases c4 : t > 3650
        · simp only [if_neg c2, if_neg c3, decide_eq_true c4]
          exact hno _ (by rw [decide_eq_false (show ¬ (0 ≤ f ∧ f ≤ t ∧ t ≤ 3650) by omega)]; simp)
        · simp only [if_neg c2, if_neg c3, decide_eq_false c4]
          rw [decide_eq_true c1, decide_eq_true (show 0 ≤ f ∧ f ≤ t ∧ t ≤ 3650 by omega)]
          simp only [Bool.true_and]
          refine Ev.step (fun k => by rw [impl_PatternOk.j0]) ?_
          simp only [Bool.false_eq_true, if_false]
          refine Ev.bind (impl_days_ev w f t (by omega) true ns ns al hn) ?_
          cases hd : (decide (ns.length ≤ 20) && daysB w f t true ns 0 ns) with
          | false => simpa using ev_some
          | true =>
            simp only [if_true, Bool.true_and]
            exact Ev.bind (impl_days_ev w f t (by omega) false al ns al ha) ev_some
  · simp only [if_neg c1, decide_eq_false c1, Bool.false_and]
    exact hno _ rfl
theorem shifted_ev (l : List Int) (hl : l.length ≤ 2000000) (n : Int) (hb : ∀ x ∈ l, -100000 ≤ x + n ∧ x + n ≤ 100000) : Ev (fun k => impl_shifted.f k l n) (moved n l) := by
  unfold impl_shifted.f moved
  simp only [if_pos (show 0 ≤ (l.length : Int) by omega), if_pos (show ((l.length : Int)).toNat ≤ 35184372088832 by omega)]
  have hw : ∀ j, j < l.length → wrap64 (l.getD j 0 + n) = l.getD j 0 + n := fun j hj => by
    have hm : l.getD j 0 ∈ l := by rw [List.getD_eq_getElem?_getD, List.getElem?_eq_getElem hj]; exact List.getElem_mem _
    have := hb _ hm
    exact w64 (by omega) (by omega)
  have h := copy_loop (fun b : Int => b + n) 0 l (fun k acc i => impl_shifted.l0 k n acc l (l.length : Int) i) (by omega) (fun k acc j => by
    by_cases c : j < l.length
    · simp only [impl_shifted.l0, rdI_at, hw j c, Int.toNat_natCast, if_pos (show 0 ≤ (j : Int) by omega), Int.ofNat_lt, if_pos c]
    · simp only [impl_shifted.l0, Int.ofNat_lt, if_neg c]) l.length 0 (List.replicate l.length 0) (by omega) (by omega) (by simp) (by simp)
  simpa using h
theorem impl_lat_l0 {w n : Int} (hn : -3650 ≤ n ∧ n ≤ 3650) (f t : Int) (ns al : List Int) (F T : Int) (X Y : List Int) (d : Nat) : ∀ j : Nat, 7 - j = d → j ≤ 7 → Ev (fun k => impl_Later.l0 k n (j : Int) w f t ns al ((List.range j).foldl (stI w (n % 7)) 0) F T X Y) (weekI w (n % 7), F, T, X, Y) := by
  induction d with
  | zero =>
    intro j h0 h1
    obtain rfl : j = 7 := by omega
    refine Ev.step (fun k => by rw [impl_Later.l0]) ?_
    simp only [if_neg (show ¬ ((7 : Nat) : Int) < 7 by omega)]
    exact ev_some
  | succ d ih =>
    intro j h0 h1
    have hi := ih (j + 1) (by omega) (by omega)
    rw [fold_next] at hi
    have e0 := Int.tmod_eq_emod (a := (j : Int) + n) (b := 7)
    have e1 : Int.tmod ((j : Int) + n) 7 = ((j : Int) + n) % 7 ∨ Int.tmod ((j : Int) + n) 7 = ((j : Int) + n) % 7 - 7 := by
      rw [e0]; split <;> simp
    have e2 : Int.tmod (wrap64 (Int.tmod (wrap64 ((j : Int) + n)) 7 + 7)) 7 = ((j : Int) + n % 7) % 7 := by
      rw [w64 (x := (j : Int) + n) (by omega) (by omega), w64 (x := Int.tmod ((j : Int) + n) 7 + 7) (by omega) (by omega), Int.tmod_eq_emod_of_nonneg (by omega)]
      omega
    refine Ev.step (fun k => by rw [impl_Later.l0]) ?_
    simp only [if_pos (show (j : Int) < 7 by omega), if_pos (show 0 ≤ (j : Int) by omega), nat_w (show j ≤ 9223372036854775806 by omega), e2, if_pos (show 0 ≤ ((j : Int) + n % 7) % 7 by omega)]
    by_cases c : Go.bits .and .i64 (shr .i64 w (j : Int)) 1 = 1
    · simp only [stI, if_pos c] at hi
      simp only [if_pos c]
      exact hi
    · simp only [stI, if_neg c] at hi
      simp only [if_neg c]
      exact hi
theorem impl_later_ev (w f t : Int) (ns al : List Int) (n : Int) (h1 : ns.length ≤ 2000000) (h2 : al.length ≤ 2000000) : Ev (fun k => impl_Later.f k w f t ns al n) (latR w f t ns al n) := by
  unfold impl_Later.f latR
  have hno : ∀ r, r = (0, 0, 0, [], []) → Ev (fun k => impl_Later.j0 k n true w f t ns al) r := fun r hr => by
    rw [hr]; exact Ev.step (fun k => by rw [impl_Later.j0]) (by simpa using ev_some)
  refine Ev.bind (impl_pat_ev w f t ns al h1 h2) ?_
  by_cases c0 : patB w f t ns al = true
  · obtain ⟨p1, p2, p3, p4, _⟩ := patB_len c0
    simp only [if_pos c0, impl_in, Option.bind_some, decide_eq_true_eq]
    by_cases c1 : -3650 ≤ n ∧ n ≤ 3650
    · simp only [if_pos c1, w64 (x := f + n) (by omega) (by omega), w64 (x := t + n) (by omega) (by omega)]
      by_cases c2 : f + n < 0
      · simp only [if_pos c2]
        exact hno _ (by rw [if_neg (fun h => by have := h.2.2.1; omega)])
      · simp only [if_neg c2]
        by_cases c3 : t + n > 3650
        · simp only [decide_eq_true c3]
          exact hno _ (by rw [if_neg (fun h => by have := h.2.2.2; omega)])
        · simp only [decide_eq_false c3]
          rw [if_pos (show latOk w f t ns al n from ⟨c0, c1, by omega, by omega⟩)]
          refine Ev.step (fun k => by rw [impl_Later.j0]) ?_
          simp only [Bool.false_eq_true, if_false, w64 (x := f + n) (by omega) (by omega), w64 (x := t + n) (by omega) (by omega)]
          refine Ev.bind (shifted_ev ns h1 n (fun x hx => by have := p3 x hx; omega)) (Ev.bind (shifted_ev al h2 n (fun x hx => by have := p4 x hx; omega)) ?_)
          exact impl_lat_l0 c1 f t ns al (f + n) (t + n) _ _ _ 0 rfl (by omega)
    · simp only [if_neg c1]
      exact hno _ (by rw [if_neg (fun h => c1 h.2.1)])
  · simp only [if_neg c0]
    exact hno _ (by rw [if_neg (fun h => c0 h.1)])
theorem spec_week_ev (w d : Int) (h0 : 0 ≤ d) : spec_l01Week.f w d = some (wk w d) := by
  have h7 : Int.tmod d 7 = d % 7 := Int.tmod_eq_emod_of_nonneg h0
  have hm : spec_l01Mod.f d 7 = some (Int.tmod d 7) := by
    unfold spec_l01Mod.f
    rw [if_neg (by decide), if_neg (by rw [h7]; omega)]
  have hw : IntKind.u64.wrap (Int.tmod d 7) = Int.tmod d 7 := by
    rw [h7]
    have : IntKind.u64.wrap (d % 7) = (d % 7) % 18446744073709551616 := rfl
    rw [this]; omega
  unfold spec_l01Week.f wk
  rw [hm]
  simp only [Option.bind_some, hw]
  rw [if_pos (by rw [h7]; omega)]
theorem spec_days_loop (w f t : Int) (h0 : 0 ≤ f) (b : Bool) (xs ns al : List Int) (hn : xs.length ≤ 2000000) : ∀ (rest : List Int) (j : Nat), xs.drop j = rest → j ≤ xs.length →
    Ev (fun k => spec_l01Days.l0 k xs b (j : Int) w f t ns al) (daysB w f t b xs j rest && decide (xs.length ≤ 20)) := by
  intro rest
  induction rest with
  | nil =>
    intro j h hl
    have := drop_nil h
    refine Ev.step (fun k => by rw [spec_l01Days.l0]) ?_
    simp only [if_neg (show ¬ (j : Int) < (xs.length : Int) by omega), daysB, Bool.true_and]
    have e : decide ((xs.length : Int) ≤ 20) = decide (xs.length ≤ 20) := decide_eq_decide.mpr (by omega)
    rw [e]; exact ev_some
  | cons d rest ih =>
    intro j h hl
    obtain ⟨h1, h2, h3⟩ := drop_cons h
    refine Ev.step (fun k => by rw [spec_l01Days.l0]) ?_
    simp only [if_pos (show (j : Int) < (xs.length : Int) by omega), if_pos (show 0 ≤ (j : Int) by omega), rdI_at, h2, spec_in, Option.bind_some, decide_eq_true_eq]
    by_cases c1 : f ≤ d ∧ d ≤ t
    · have hd : 0 ≤ d := by omega
      simp only [if_pos c1, spec_week_ev w d hd, Option.bind_some, nat_w (show j ≤ 9223372036854775806 by omega)]
      have hi := ih (j + 1) h3 (by omega)
      by_cases c0 : j = 0
      · subst c0
        simp only [if_neg (show ¬ ((0 : Nat) : Int) > 0 by omega)]
        by_cases c2 : wk w d = b
        · subst c2
          simpa [daysB, dayB, c1, prevOk] using hi
        · have c3 : (wk w d != b) = true := by simpa using c2
          simp only [c3, if_true]
          have e : (wk w d == b) = false := by simpa using c2
          simp only [daysB, dayB, e, Bool.and_false, Bool.false_and]
          exact ev_some
      · simp only [if_pos (show (j : Int) > 0 by omega), show (j : Int) - 1 = ((j - 1 : Nat) : Int) by omega, w64 (x := ((j - 1 : Nat) : Int)) (by omega) (by omega), if_pos (show 0 ≤ ((j - 1 : Nat) : Int) by omega), if_pos (show ((j - 1 : Nat) : Int) < (xs.length : Int) by omega), rdI_at]
        by_cases c4 : xs.getD (j - 1) 0 ≥ d
        · simp only [if_pos c4]
          have e : prevOk xs j = false := by
            unfold prevOk; rw [h2]
            simp only [Bool.or_eq_false_iff, beq_eq_false_iff_ne, decide_eq_false_iff_not]
            exact ⟨c0, by omega⟩
          simp only [daysB, dayB, e, Bool.and_false, Bool.false_and]
          exact ev_some
        · simp only [if_neg c4]
          have e : prevOk xs j = true := by
            unfold prevOk; rw [h2]
            simp only [Bool.or_eq_true, decide_eq_true_eq]
            exact Or.inr (by omega)
          by_cases c2 : wk w d = b
          · subst c2
            simpa [daysB, dayB, c1, e] using hi
          · have c3 : (wk w d != b) = true := by simpa using c2
            simp only [c3, if_true]
            have e : (wk w d == b) = false := by simpa using c2
            simp only [daysB, dayB, e, Bool.and_false, Bool.false_and]
            exact ev_some
    · simp only [if_neg c1, daysB, dayB, decide_eq_false c1, Bool.false_and]
      exact ev_some
theorem spec_days_ev (w f t : Int) (h0 : 0 ≤ f) (b : Bool) (xs ns al : List Int) (hn : xs.length ≤ 2000000) : Ev (fun k => spec_l01Days.f k xs w f t ns al b) (decide (xs.length ≤ 20) && daysB w f t b xs 0 xs) := by
  rw [Bool.and_comm]
  exact spec_days_loop w f t h0 b xs ns al hn xs 0 rfl (by omega)
theorem spec_pat_ev (w f t : Int) (ns al : List Int) (hn : ns.length ≤ 2000000) (ha : al.length ≤ 2000000) : Ev (fun k => spec_PatternOk.f k w f t ns al) (patB w f t ns al) := by
  unfold spec_PatternOk.f patB
  simp only [spec_in, Option.bind_some, decide_eq_true_eq]
  by_cases c1 : 0 ≤ w ∧ w ≤ 127
  · by_cases c2 : 0 ≤ t ∧ t ≤ 3650
    · by_cases c3 : 0 ≤ f ∧ f ≤ t
      · simp only [if_pos c1, if_pos c2, if_pos c3]
        rw [decide_eq_true c1, decide_eq_true (show 0 ≤ f ∧ f ≤ t ∧ t ≤ 3650 by omega)]
        simp only [Bool.true_and]
        refine Ev.bind (spec_days_ev w f t c3.1 true ns ns al hn) ?_
        cases hd : (decide (ns.length ≤ 20) && daysB w f t true ns 0 ns) with
        | false => simpa using ev_some
        | true =>
          simp only [if_true, Bool.true_and]
          exact Ev.bind (spec_days_ev w f t c3.1 false al ns al ha) ev_some
      · simp only [if_pos c1, if_pos c2, if_neg c3]
        rw [decide_eq_false (show ¬ (0 ≤ f ∧ f ≤ t ∧ t ≤ 3650) by omega)]
        simpa using ev_some
    · simp only [if_pos c1, if_neg c2]
      rw [decide_eq_false (show ¬ (0 ≤ f ∧ f ≤ t ∧ t ≤ 3650) by omega)]
      simpa using ev_some
  · simp only [if_neg c1, decide_eq_false c1, Bool.false_and]
    exact ev_some
theorem spec_has_loop (xs : List Int) (d : Int) (hn : xs.length ≤ 2000000) : ∀ (rest : List Int) (j : Nat), xs.drop j = rest → j ≤ xs.length → Ev (fun k => spec_l01Has.l0 k xs d (j : Int)) (decide (d ∈ rest)) := by
  intro rest
  induction rest with
  | nil =>
    intro j h hl
    have := drop_nil h
    refine Ev.step (fun k => by rw [spec_l01Has.l0]) ?_
    simp only [if_neg (show ¬ (j : Int) < (xs.length : Int) by omega)]
    simpa using ev_some
  | cons x rest ih =>
    intro j h hl
    obtain ⟨h1, h2, h3⟩ := drop_cons h
    refine Ev.step (fun k => by rw [spec_l01Has.l0]) ?_
    simp only [if_pos (show (j : Int) < (xs.length : Int) by omega), if_pos (show 0 ≤ (j : Int) by omega), rdI_at, h2]
    by_cases c : x = d
    · simp only [if_pos c]
      rw [decide_eq_true (by rw [c]; exact List.mem_cons_self ..)]
      exact ev_some
    · simp only [if_neg c, nat_w (show j ≤ 9223372036854775806 by omega)]
      have e : decide (d ∈ x :: rest) = decide (d ∈ rest) := decide_eq_decide.mpr (by rw [List.mem_cons]; exact ⟨fun h => h.resolve_left (fun e => c e.symm), Or.inr⟩)
      rw [e]
      exact ih (j + 1) h3 (by omega)
theorem spec_has_ev (xs : List Int) (d : Int) (hn : xs.length ≤ 2000000) : Ev (fun k => spec_l01Has.f k xs d) (decide (d ∈ xs)) := spec_has_loop xs d hn xs 0 rfl (by omega)
theorem impl_has_loop (xs : List Int) (d : Int) (hn : xs.length ≤ 2000000) : ∀ (rest : List Int) (j : Nat), xs.drop j = rest → j ≤ xs.length → Ev (fun k => impl_has.l0 k d xs (xs.length : Int) (j : Int)) (decide (d ∈ rest)) := by
  intro rest
  induction rest with
  | nil =>
    intro j h hl
    have := drop_nil h
    refine Ev.step (fun k => by rw [impl_has.l0]) ?_
    simp only [if_neg (show ¬ (j : Int) < (xs.length : Int) by omega)]
    simpa using ev_some
  | cons x rest ih =>
    intro j h hl
    obtain ⟨h1, h2, h3⟩ := drop_cons h
    refine Ev.step (fun k => by rw [impl_has.l0]) ?_
    simp only [if_pos (show (j : Int) < (xs.length : Int) by omega), if_pos (show 0 ≤ (j : Int) by omega), rdI_at, h2]
    by_cases c : x = d
    · simp only [if_pos c]
      rw [decide_eq_true (by rw [c]; exact List.mem_cons_self ..)]
      exact ev_some
    · simp only [if_neg c, nat_w (show j ≤ 9223372036854775806 by omega)]
      have e : decide (d ∈ x :: rest) = decide (d ∈ rest) := decide_eq_decide.mpr (by rw [List.mem_cons]; exact ⟨fun h => h.resolve_left (fun e => c e.symm), Or.inr⟩)
      rw [e]
      exact ih (j + 1) h3 (by omega)
theorem impl_has_ev (xs : List Int) (d : Int) (hn : xs.length ≤ 2000000) : Ev (fun k => impl_has.f k xs d) (decide (d ∈ xs)) := impl_has_loop xs d hn xs 0 rfl (by omega)
theorem patB_parts {w f t : Int} {ns al : List Int} (h : patB w f t ns al = true) : (0 ≤ w ∧ w ≤ 127) ∧ (0 ≤ f ∧ f ≤ t ∧ t ≤ 3650) ∧ (∀ d ∈ ns, (f ≤ d ∧ d ≤ t) ∧ wk w d = true) ∧ (∀ d ∈ al, (f ≤ d ∧ d ≤ t) ∧ wk w d = false) ∧ ns.length ≤ 20 ∧ al.length ≤ 20 := by
  simp only [patB, Bool.and_eq_true, decide_eq_true_eq] at h
  exact ⟨h.1.1.1, h.1.1.2, daysB_all ns 0 h.1.2.2, daysB_all al 0 h.2.2, h.1.2.1, h.2.1⟩
theorem impl_on_ev (w f t : Int) (ns al : List Int) (hn : ns.length ≤ 2000000) (ha : al.length ≤ 2000000) (h0 : 0 ≤ f) (d : Int) : Ev (fun k => impl_runsOn.f k w f t ns al d) (onB w f t ns al d) := by
  unfold impl_runsOn.f onB
  simp only [impl_in, Option.bind_some, decide_eq_true_eq]
  by_cases c : f ≤ d ∧ d ≤ t
  · simp only [if_pos c, decide_eq_true c, Bool.true_and, impl_week_ev w d (show 0 ≤ d by omega), Option.bind_some]
    by_cases c2 : wk w d = true
    · simp only [if_pos c2]
      exact Ev.bind (impl_has_ev ns d hn) ev_some
    · simp only [if_neg c2]
      exact Ev.bind (impl_has_ev al d ha) ev_some
  · simp only [if_neg c, decide_eq_false c, Bool.false_and]
    exact ev_some
def runsOnR (w f t : Int) (ns al : List Int) (d : Int) : Bool := patB w f t ns al && onB w f t ns al d
theorem impl_runsOn_ev (w f t : Int) (ns al : List Int) (hn : ns.length ≤ 2000000) (ha : al.length ≤ 2000000) (d : Int) : Ev (fun k => impl_RunsOn.f k w f t ns al d) (runsOnR w f t ns al d) := by
  unfold impl_RunsOn.f runsOnR
  refine Ev.bind (impl_pat_ev w f t ns al hn ha) ?_
  cases hp : patB w f t ns al with
  | false => simpa using ev_some
  | true =>
    obtain ⟨_, h2, _⟩ := patB_parts hp
    simp only [if_true, Bool.true_and]
    exact Ev.bind (impl_on_ev w f t ns al hn ha h2.1 d) ev_some
def runsN (w f t : Int) (ns al : List Int) : Nat → Int → Nat
  | 0, _ => 0
  | m + 1, d => (if onB w f t ns al d = true then 1 else 0) + runsN w f t ns al m (d + 1)
def runsR (w f t : Int) (ns al : List Int) : Int := if patB w f t ns al = true then (runsN w f t ns al (t - f + 1).toNat f : Nat) else 0
theorem impl_runs_loop (w f t : Int) (ns al : List Int) (hp : patB w f t ns al = true) : ∀ (m : Nat) (d c : Int), m = (t - d + 1).toNat → f ≤ d → 0 ≤ c → c ≤ 100000 - m → Ev (fun k => impl_Runs.l0 k c d w f t ns al) (c + (runsN w f t ns al m d : Nat)) := by
  obtain ⟨_, h2, _, _, hn, ha⟩ := patB_parts hp
  intro m
  induction m with
  | zero =>
    intro d c hm hd hc hc2
    refine Ev.step (fun k => by rw [impl_Runs.l0]) ?_
    simp only [if_neg (show ¬ d ≤ t by omega), runsN]
    simpa using ev_some
  | succ m ih =>
    intro d c hm hd hc hc2
    refine Ev.step (fun k => by rw [impl_Runs.l0]) ?_
    simp only [if_pos (show d ≤ t by omega)]
    refine Ev.bind (impl_on_ev w f t ns al (by omega) (by omega) h2.1 d) ?_
    rw [w64 (x := c + 1) (by omega) (by omega), w64 (x := d + 1) (by omega) (by omega)]
    by_cases o : onB w f t ns al d = true
    · simp only [if_pos o, runsN]
      rw [show c + ((1 + runsN w f t ns al m (d + 1) : Nat) : Int) = (c + 1) + (runsN w f t ns al m (d + 1) : Nat) by omega]
      exact ih (d + 1) (c + 1) (by omega) (by omega) (by omega) (by omega)
    · simp only [if_neg o, runsN]
      rw [show c + ((0 + runsN w f t ns al m (d + 1) : Nat) : Int) = c + (runsN w f t ns al m (d + 1) : Nat) by omega]
      exact ih (d + 1) c (by omega) (by omega) (by omega) (by omega)
theorem impl_runs_ev (w f t : Int) (ns al : List Int) (hn : ns.length ≤ 2000000) (ha : al.length ≤ 2000000) : Ev (fun k => impl_Runs.f k w f t ns al) (runsR w f t ns al) := by
  unfold impl_Runs.f runsR
  refine Ev.bind (impl_pat_ev w f t ns al hn ha) ?_
  by_cases hp : patB w f t ns al = true
  · simp only [if_pos hp]
    obtain ⟨_, h2, _⟩ := patB_parts hp
    have := impl_runs_loop w f t ns al hp _ f 0 rfl (by omega) (by omega) (by omega)
    rw [Int.zero_add] at this
    exact this
  · simp only [if_neg hp]; exact ev_some
def nextN (w f t : Int) (ns al : List Int) : Nat → Int → Int
  | 0, _ => -1
  | m + 1, d => if onB w f t ns al d = true then d else nextN w f t ns al m (d + 1)
def nextR (w f t : Int) (ns al : List Int) (a : Int) : Int := if patB w f t ns al = true then nextN w f t ns al (t - (mx a f) + 1).toNat (mx a f) else -1
theorem impl_next_loop (w f t : Int) (ns al : List Int) (hp : patB w f t ns al = true) : ∀ (m : Nat) (d : Int), m = (t - d + 1).toNat → f ≤ d → Ev (fun k => impl_NextRun.l0 k d w f t ns al) (nextN w f t ns al m d) := by
  obtain ⟨_, h2, _, _, hn, ha⟩ := patB_parts hp
  intro m
  induction m with
  | zero =>
    intro d hm hd
    refine Ev.step (fun k => by rw [impl_NextRun.l0]) ?_
    simp only [if_neg (show ¬ d ≤ t by omega), nextN]
    exact ev_some
  | succ m ih =>
    intro d hm hd
    refine Ev.step (fun k => by rw [impl_NextRun.l0]) ?_
    simp only [if_pos (show d ≤ t by omega)]
    refine Ev.bind (impl_on_ev w f t ns al (by omega) (by omega) h2.1 d) ?_
    rw [w64 (x := d + 1) (by omega) (by omega)]
    by_cases o : onB w f t ns al d = true
    · simp only [if_pos o, nextN]
      exact ev_some
    · simp only [if_neg o, nextN]
      exact ih (d + 1) (by omega) (by omega)
theorem impl_next_ev (w f t : Int) (ns al : List Int) (a : Int) (hn : ns.length ≤ 2000000) (ha : al.length ≤ 2000000) : Ev (fun k => impl_NextRun.f k w f t ns al a) (nextR w f t ns al a) := by
  unfold impl_NextRun.f nextR
  refine Ev.bind (impl_pat_ev w f t ns al hn ha) ?_
  by_cases hp : patB w f t ns al = true
  · simp only [if_pos hp]
    exact impl_next_loop w f t ns al hp _ (mx a f) rfl (by unfold mx; split <;> omega)
  · simp only [if_neg hp]; exact ev_some
/-! What a moved pattern is. -/
theorem wk_mod (w d : Int) (h : 0 ≤ d) : wk w d = wk w (d % 7) := by
  unfold wk
  rw [Int.tmod_eq_emod_of_nonneg h, Int.tmod_eq_emod_of_nonneg (show 0 ≤ d % 7 by omega), Int.emod_emod_of_dvd d (Int.dvd_refl 7)]
theorem wk_moved {w n d : Int} (h0 : 0 ≤ w) (h1 : w ≤ 127) (hd : 0 ≤ d) (hdn : 0 ≤ d + n) : wk (weekI w (n % 7)) (d + n) = wk w d := by
  have h := (week_all h0 h1 (show 0 ≤ n % 7 by omega) (show n % 7 < 7 by omega)).2.2 (d % 7) (by omega) (by omega)
  rw [wk_mod _ _ hdn, wk_mod w d hd, show (d + n) % 7 = (d % 7 + n % 7) % 7 by omega]
  exact h
theorem chk_back : (List.range 128).all (fun w => (List.range 7).all (fun r => decide (weekI (weekI (w : Int) (r : Int)) ((-(r : Int)) % 7) = (w : Int)))) = true := by decide +kernel
theorem week_back {w r : Int} (h0 : 0 ≤ w) (h1 : w ≤ 127) (r0 : 0 ≤ r) (r1 : r < 7) : weekI (weekI w r) ((-r) % 7) = w := by
  have h := chk_back
  rw [List.all_eq_true] at h
  have h2 := h w.toNat (List.mem_range.2 (by omega))
  rw [List.all_eq_true] at h2
  have h3 := h2 r.toNat (List.mem_range.2 (by omega))
  rw [Int.toNat_of_nonneg h0, Int.toNat_of_nonneg r0, decide_eq_true_eq] at h3
  exact h3
theorem moved_back (n : Int) (l : List Int) : moved (-n) (moved n l) = l := by
  unfold moved
  rw [List.map_map]
  have : ((fun x : Int => x + -n) ∘ fun x : Int => x + n) = id := by funext x; simp only [Function.comp_apply, id_eq]; omega
  rw [this, List.map_id]
theorem mem_moved (n : Int) (l : List Int) (d : Int) : d + n ∈ moved n l ↔ d ∈ l := by
  unfold moved
  rw [List.mem_map]
  constructor
  · rintro ⟨x, hx, e⟩
    have : x = d := by omega
    rwa [← this]
  · intro h; exact ⟨d, h, rfl⟩
theorem moved_length (n : Int) (l : List Int) : (moved n l).length = l.length := by simp [moved]
theorem moved_at (n : Int) (l : List Int) (j : Nat) (h : j < l.length) : (moved n l).getD j 0 = l.getD j 0 + n := by
  unfold moved
  rw [List.getD_eq_getElem?_getD, List.getElem?_map, List.getElem?_eq_getElem h, List.getD_eq_getElem?_getD, List.getElem?_eq_getElem h]; rfl
section
variable {w f t n : Int} (hw : 0 ≤ w ∧ w ≤ 127) (hf : 0 ≤ f) (hfn : 0 ≤ f + n)
include hw hf hfn
theorem daysB_moved (b : Bool) (xs : List Int) : ∀ (l : List Int) (j : Nat), xs.drop j = l → daysB (weekI w (n % 7)) (f + n) (t + n) b (moved n xs) j (moved n l) = daysB w f t b xs j l
  | [], _, _ => rfl
  | x :: l, j, h => by
    obtain ⟨h1, h2, h3⟩ := drop_cons h
    show (dayB (weekI w (n % 7)) (f + n) (t + n) b (moved n xs) j (x + n) && daysB (weekI w (n % 7)) (f + n) (t + n) b (moved n xs) (j + 1) (moved n l)) = (dayB w f t b xs j x && daysB w f t b xs (j + 1) l)
    rw [daysB_moved b xs l (j + 1) h3]
    congr 1
    unfold dayB
    have e1 : decide (f + n ≤ x + n ∧ x + n ≤ t + n) = decide (f ≤ x ∧ x ≤ t) := decide_eq_decide.mpr (by omega)
    have e2 : prevOk (moved n xs) j = prevOk xs j := by
      unfold prevOk
      cases j with
      | zero => rfl
      | succ j =>
        rw [moved_at n xs _ (show j + 1 - 1 < xs.length by omega), moved_at n xs _ h1]
        congr 1
        exact decide_eq_decide.mpr (by omega)
    rw [e1, e2]
    by_cases c : f ≤ x ∧ x ≤ t
    · rw [wk_moved hw.1 hw.2 (by omega) (by omega)]
    · rw [decide_eq_false c]; simp only [Bool.false_and]
theorem onB_moved (ns al : List Int) (d : Int) : onB (weekI w (n % 7)) (f + n) (t + n) (moved n ns) (moved n al) (d + n) = onB w f t ns al d := by
  unfold onB
  have e1 : decide (f + n ≤ d + n ∧ d + n ≤ t + n) = decide (f ≤ d ∧ d ≤ t) := decide_eq_decide.mpr (by omega)
  rw [e1]
  by_cases c : f ≤ d ∧ d ≤ t
  · rw [wk_moved hw.1 hw.2 (by omega) (by omega), decide_eq_decide.mpr (mem_moved n ns d), decide_eq_decide.mpr (mem_moved n al d)]
  · rw [decide_eq_false c]; simp only [Bool.false_and]
theorem runsN_moved (ns al : List Int) : ∀ (m : Nat) (d : Int), runsN (weekI w (n % 7)) (f + n) (t + n) (moved n ns) (moved n al) m (d + n) = runsN w f t ns al m d
  | 0, _ => rfl
  | m + 1, d => by
    simp only [runsN]
    rw [onB_moved hw hf hfn ns al d, show d + n + 1 = (d + 1) + n by omega, runsN_moved ns al m (d + 1)]
theorem nextN_moved (ns al : List Int) : ∀ (m : Nat) (d : Int), 0 ≤ d → (nextN w f t ns al m d = -1 ∧ nextN (weekI w (n % 7)) (f + n) (t + n) (moved n ns) (moved n al) m (d + n) = -1) ∨ (d ≤ nextN w f t ns al m d ∧ onB w f t ns al (nextN w f t ns al m d) = true ∧ nextN (weekI w (n % 7)) (f + n) (t + n) (moved n ns) (moved n al) m (d + n) = nextN w f t ns al m d + n)
  | 0, _, _ => Or.inl ⟨rfl, rfl⟩
  | m + 1, d, hd => by
    simp only [nextN]
    rw [onB_moved hw hf hfn ns al d]
    by_cases c : onB w f t ns al d = true
    · rw [if_pos c, if_pos c]; exact Or.inr ⟨Int.le_refl _, c, rfl⟩
    · rw [if_neg c, if_neg c, show d + n + 1 = (d + 1) + n by omega]
      rcases nextN_moved ns al m (d + 1) (by omega) with h | ⟨h1, h2, h3⟩
      · exact Or.inl h
      · exact Or.inr ⟨by omega, h2, h3⟩
end
theorem patB_moved {w f t n : Int} {ns al : List Int} (hp : patB w f t ns al = true) (h0 : 0 ≤ f + n) (h1 : t + n ≤ 3650) : patB (weekI w (n % 7)) (f + n) (t + n) (moved n ns) (moved n al) = true := by
  obtain ⟨p1, p2, _⟩ := patB_len hp
  have hw := (week_all p1.1 p1.2 (show 0 ≤ n % 7 by omega) (show n % 7 < 7 by omega)).2.1
  unfold patB at hp ⊢
  rw [daysB_moved p1 p2.1 h0 true ns ns 0 rfl, daysB_moved p1 p2.1 h0 false al al 0 rfl, moved_length, moved_length]
  simp only [Bool.and_eq_true, decide_eq_true_eq] at hp ⊢
  exact ⟨⟨⟨hw, by omega⟩, hp.1.2⟩, hp.2⟩
theorem latR_ok {w f t : Int} {ns al : List Int} {n : Int} (h : latOk w f t ns al n) : latR w f t ns al n = (weekI w (n % 7), f + n, t + n, moved n ns, moved n al) := by unfold latR; rw [if_pos h]
theorem latR_back {w f t : Int} {ns al : List Int} {n : Int} (h : latOk w f t ns al n) : latR (weekI w (n % 7)) (f + n) (t + n) (moved n ns) (moved n al) (-n) = (w, f, t, ns, al) := by
  obtain ⟨hp, hn, h0, h1⟩ := h
  obtain ⟨p1, p2, _⟩ := patB_len hp
  rw [latR_ok ⟨patB_moved hp h0 h1, by omega, by omega, by omega⟩, moved_back, moved_back, show (-n) % 7 = (-(n % 7)) % 7 by omega, week_back p1.1 p1.2 (by omega) (by omega), show f + n + -n = f by omega, show t + n + -n = t by omega]
theorem spec_runsOn_ev (w f t : Int) (ns al : List Int) (hn : ns.length ≤ 2000000) (ha : al.length ≤ 2000000) (d : Int) : Ev (fun k => spec_RunsOn.f k w f t ns al d) (runsOnR w f t ns al d) := by
  unfold spec_RunsOn.f runsOnR
  refine Ev.bind (spec_pat_ev w f t ns al hn ha) ?_
  cases hp : patB w f t ns al with
  | false =>
    simp only [Bool.false_eq_true, if_false, Bool.false_and]
    exact Ev.step (fun k => by rw [spec_RunsOn.j0]) (by simpa using ev_some)
  | true =>
    obtain ⟨_, h2, _, h4, _, _⟩ := patB_parts hp
    simp only [if_true, Bool.true_and, spec_in, Option.bind_some, onB]
    refine Ev.step (fun k => by rw [spec_RunsOn.j0]) ?_
    by_cases c : f ≤ d ∧ d ≤ t
    · simp only [decide_eq_true c, Bool.not_true, Bool.false_eq_true, if_false, Bool.true_and, spec_week_ev w d (show 0 ≤ d by omega), Option.bind_some]
      by_cases c2 : wk w d = true
      · simp only [if_pos c2]
        refine Ev.bind (spec_has_ev ns d (by omega)) ?_
        by_cases c3 : d ∈ ns
        · simp only [decide_eq_true c3, if_true, Bool.not_true]
          refine Ev.bind (spec_has_ev al d (by omega)) ?_
          rw [decide_eq_false (fun h => by have := (h4 d h).2; rw [c2] at this; cases this)]
          exact ev_some
        · simp only [decide_eq_false c3, Bool.false_eq_true, if_false, Bool.not_false]
          exact ev_some
      · simp only [if_neg c2]
        exact Ev.bind (spec_has_ev al d (by omega)) ev_some
    · simp only [decide_eq_false c, Bool.not_false, if_true, Bool.false_and]
      exact ev_some
theorem sameInts_ev (xs : List Int) (hn : xs.length ≤ 2000000) : Ev (fun k => laws_sameInts.f k xs xs) true := by
  unfold laws_sameInts.f
  simp only [if_true]
  refine all_loop xs.length (fun k i => laws_sameInts.l0 k xs xs i) (by omega) (fun k j hj => ?_) (fun k => ?_) xs.length 0 (by omega) (by omega)
  · simp [laws_sameInts.l0, hj]
  · simp [laws_sameInts.l0]
theorem and255 (n : Int) : Go.bits .and .i64 n 255 = n % 256 := by
  have h255 : (BitVec.ofInt 64 255).toNat = 2 ^ 8 - 1 := by decide
  have key : (BitVec.ofInt 64 n &&& BitVec.ofInt 64 255).toNat = (n % ((2 ^ 64 : Nat) : Int)).toNat % 2 ^ 8 := by
    rw [BitVec.toNat_and, BitVec.toNat_ofInt, h255, Nat.and_two_pow_sub_one_eq_mod]
  show Go.IntKind.i64.wrap ((BitVec.ofInt 64 n &&& BitVec.ofInt 64 255).toNat : Nat) = n % 256
  rw [key, Go.IntKind.wrap_i64]
  omega
theorem new_loop (l : List Int) (hl : l.length ≤ 2000000) (m : Nat) : ∀ (j : Nat) (h : Int), l.length - j = m → j ≤ l.length → ∃ h', Ev (fun k => spec_l01New.l0 k l h (j : Int)) (l, 0, h') := by
  induction m with
  | zero =>
    intro j h h0 h1
    refine ⟨h, Ev.step (fun k => by rw [spec_l01New.l0]) ?_⟩
    simp only [if_neg (show ¬ (j : Int) < (l.length : Int) by omega)]
    exact ev_some
  | succ m ih =>
    intro j h h0 h1
    by_cases c : (j : Int) < 4000
    · obtain ⟨h', hh⟩ := ih (j + 1) (Go.bits .and .i64 (wrap64 ((wrap64 ((wrap64 (h * 137)) + (wrap64 (rd l (j : Int))))) + 11)) 1073741823) (by omega) (by omega)
      refine ⟨h', Ev.step (fun k => by rw [spec_l01New.l0]) ?_⟩
      simp only [if_pos (show (j : Int) < (l.length : Int) by omega), if_pos c, if_pos (show 0 ≤ (j : Int) by omega), nat_w (show j ≤ 9223372036854775806 by omega)]
      exact hh
    · refine ⟨h, Ev.step (fun k => by rw [spec_l01New.l0]) ?_⟩
      simp only [if_pos (show (j : Int) < (l.length : Int) by omega), if_neg c]
      exact ev_some
theorem new_ev (l : List Int) (hl : l.length ≤ 2000000) : ∃ h, Ev (fun k => spec_l01New.f k l) (l, 0, h) := by
  unfold spec_l01New.f
  obtain ⟨h, hh⟩ := new_loop l hl l.length 0 (wrap64 (75075 + (l.length : Int))) (by omega) (by omega)
  exact ⟨h, by simpa using hh⟩
/-- A place in the bytes of a draw. -/
def Pl (l : List Int) (i : Int) : Prop := 0 ≤ i ∧ i ≤ (l.length : Int)
theorem byte_ev (l : List Int) (hl : l.length ≤ 2000000) (i h : Int) (hi : Pl l i) : ∃ r i' h', spec_l01Byte.f l i h = some (r, i', h') ∧ (0 ≤ r ∧ r ≤ 255) ∧ Pl l i' := by
  unfold Pl at *
  unfold spec_l01Byte.f
  by_cases c : i < (l.length : Int)
  · simp only [if_pos c, if_pos hi.1, and255]
    refine ⟨_, _, _, rfl, by omega, ?_⟩
    rw [w64 (by omega) (by omega)]
    omega
  · simp only [if_neg c, and255]
    exact ⟨_, _, _, rfl, by omega, hi⟩
theorem below_ev (l : List Int) (hl : l.length ≤ 2000000) (i h : Int) (hi : Pl l i) (n : Int) (hn : n ≤ 16777216) : ∃ r i' h', spec_l01Below.f l i h n = some (r, i', h') ∧ (0 ≤ r ∧ (r < n ∨ r = 0)) ∧ Pl l i' := by
  unfold spec_l01Below.f
  by_cases c0 : n ≤ 0
  · simp only [if_pos c0]
    exact ⟨_, _, _, rfl, by omega, hi⟩
  · simp only [if_neg c0]
    by_cases c1 : n ≤ 256
    · obtain ⟨r, i', h', e, hr, hp⟩ := byte_ev l hl i h hi
      simp only [if_pos c1, e, Option.bind_some, if_neg (show ¬ n = 0 by omega)]
      refine ⟨_, _, _, rfl, ?_, hp⟩
      rw [Int.tmod_eq_emod_of_nonneg hr.1]
      have := Int.emod_nonneg r (show n ≠ 0 by omega)
      have := Int.emod_lt_of_pos r (show 0 < n by omega)
      omega
    · obtain ⟨r, i', h', e, hr, hp⟩ := byte_ev l hl i h hi
      obtain ⟨r2, i2, h2, e2, hr2, hp2⟩ := byte_ev l hl i' h' hp
      obtain ⟨r3, i3, h3, e3, hr3, hp3⟩ := byte_ev l hl i2 h2 hp2
      simp only [if_neg c1, e, e2, e3, Option.bind_some, if_neg (show ¬ n = 0 by omega)]
      refine ⟨_, _, _, rfl, ?_, hp3⟩
      rw [w64 (x := r * 65536) (by omega) (by omega), w64 (x := r2 * 256) (by omega) (by omega), w64 (x := r * 65536 + r2 * 256) (by omega) (by omega), w64 (x := r * 65536 + r2 * 256 + r3) (by omega) (by omega)]
      rw [Int.tmod_eq_emod_of_nonneg (by omega)]
      have := Int.emod_nonneg (r * 65536 + r2 * 256 + r3) (show n ≠ 0 by omega)
      have := Int.emod_lt_of_pos (r * 65536 + r2 * 256 + r3) (show 0 < n by omega)
      omega
/-- The same where n is above 0. -/
theorem below_pos (l : List Int) (hl : l.length ≤ 2000000) (i h : Int) (hi : Pl l i) (n : Int) (h0 : 0 < n) (hn : n ≤ 16777216) : ∃ r i' h', spec_l01Below.f l i h n = some (r, i', h') ∧ (0 ≤ r ∧ r < n) ∧ Pl l i' := by
  obtain ⟨r, i', h', e, hr, hp⟩ := below_ev l hl i h hi n hn
  exact ⟨r, i', h', e, by omega, hp⟩
theorem pl0 (l : List Int) : Pl l 0 := by unfold Pl; omega
theorem daysB_of {w f t : Int} {b : Bool} {xs : List Int} (h1 : xs.Pairwise (· < ·)) (h2 : ∀ x ∈ xs, (f ≤ x ∧ x ≤ t) ∧ wk w x = b) : ∀ (l : List Int) (j : Nat), xs.drop j = l → daysB w f t b xs j l = true
  | [], _, _ => rfl
  | x :: l, j, h => by
    obtain ⟨a1, a2, a3⟩ := drop_cons h
    have hm : x ∈ xs := by
      have : x ∈ xs.drop j := by rw [h]; exact List.mem_cons_self ..
      exact List.mem_of_mem_drop this
    obtain ⟨b1, b2⟩ := h2 x hm
    simp only [daysB, dayB, daysB_of h1 h2 l (j + 1) a3, Bool.and_true, Bool.and_eq_true, decide_eq_true_eq, beq_iff_eq]
    refine ⟨⟨b1, ?_⟩, b2⟩
    unfold prevOk
    cases j with
    | zero => rfl
    | succ j =>
      have hlt := (List.pairwise_iff_getElem.1 h1) j (j + 1) (by omega) a1 (by omega)
      rw [List.getD_eq_getElem?_getD, List.getD_eq_getElem?_getD, List.getElem?_eq_getElem (show j + 1 - 1 < xs.length by omega), List.getElem?_eq_getElem a1]
      simp only [Option.getD_some, Nat.add_sub_cancel, Bool.or_eq_true, decide_eq_true_eq]
      exact Or.inr hlt
/-- A list of days so far. -/
def Days (w f d : Int) (b : Bool) (xs : List Int) : Prop := xs.Pairwise (· < ·) ∧ (∀ x ∈ xs, (f ≤ x ∧ x < d) ∧ wk w x = b) ∧ xs.length ≤ 20
theorem Days.next {w f d : Int} {b : Bool} {xs : List Int} (h : Days w f d b xs) : Days w f (d + 1) b xs := ⟨h.1, fun x hx => by obtain ⟨h1, h2⟩ := h.2.1 x hx; exact ⟨by omega, h2⟩, h.2.2⟩
theorem Days.add {w f d : Int} {b : Bool} {xs : List Int} (h : Days w f d b xs) (hf : f ≤ d) (hw : wk w d = b) (hl : xs.length < 20) : Days w f (d + 1) b (xs ++ [d]) := by
  refine ⟨List.pairwise_append.2 ⟨h.1, List.pairwise_singleton _ _, fun x hx y hy => ?_⟩, fun x hx => ?_, by simp; omega⟩
  · rw [List.mem_singleton] at hy
    have := (h.2.1 x hx).1
    omega
  · rcases List.mem_append.1 hx with hx | hx
    · obtain ⟨h1, h2⟩ := h.2.1 x hx; exact ⟨by omega, h2⟩
    · rw [List.mem_singleton] at hx
      subst hx; exact ⟨by omega, hw⟩
theorem draw_pat_loop (l : List Int) (hl : l.length ≤ 2000000) (w f t : Int) (hf : 0 ≤ f) (ht : t ≤ 1000) (m : Nat) : ∀ (d : Int) (ns al : List Int) (i h : Int), m = (t - d + 1).toNat → f ≤ d → d ≤ t + 1 → Days w f d true ns → Days w f d false al → Pl l i →
    ∃ ns' al' i' h', Ev (fun k => spec_l01DrawRight.l0 k d l i h w f t ns al) (w, f, t, ns', al', i', h') ∧ Days w f (t + 1) true ns' ∧ Days w f (t + 1) false al' ∧ Pl l i' := by
  induction m with
  | zero =>
    intro d ns al i h hm h1 h2 hn ha hi
    obtain rfl : d = t + 1 := by omega
    refine ⟨ns, al, i, h, Ev.step (fun k => by rw [spec_l01DrawRight.l0]) ?_, hn, ha, hi⟩
    simp only [if_neg (show ¬ t + 1 ≤ t by omega)]
    exact ev_some
  | succ m ih =>
    intro d ns al i h hm h1 h2 hn ha hi
    obtain ⟨o, i1, g1, e1, b1, p1⟩ := below_pos l hl i h hi 9 (by omega) (by omega)
    have hw1 : wrap64 (d + 1) = d + 1 := w64 (by omega) (by omega)
    have hwk := spec_week_ev w d (show 0 ≤ d by omega)
    by_cases c : (o == 0) = true
    · cases ck : wk w d with
      | true =>
        by_cases cl : ns.length < 20
        · obtain ⟨ns', al', i', h', hev, q⟩ := ih (d + 1) (ns ++ [d]) al i1 g1 (by omega) (by omega) (by omega) (hn.add h1 ck cl) ha.next p1
          refine ⟨ns', al', i', h', Ev.step (fun k => by rw [spec_l01DrawRight.l0]) ?_, q⟩
          simp only [if_pos (show d ≤ t by omega), spec_l01Once.f, e1, Option.bind_some, if_pos c, hwk, ck, if_true]
          refine Ev.step (fun k => by rw [spec_l01DrawRight.j1]) ?_
          simp only [decide_eq_true (show (ns.length : Int) < 20 by omega), if_true, if_pos (show ns.length < 17592186044416 by omega), Option.bind_some, hwk, ck, hw1]
          exact hev
        · obtain ⟨ns', al', i', h', hev, q⟩ := ih (d + 1) ns al i1 g1 (by omega) (by omega) (by omega) hn.next ha.next p1
          refine ⟨ns', al', i', h', Ev.step (fun k => by rw [spec_l01DrawRight.l0]) ?_, q⟩
          simp only [if_pos (show d ≤ t by omega), spec_l01Once.f, e1, Option.bind_some, if_pos c, hwk, ck, if_true]
          refine Ev.step (fun k => by rw [spec_l01DrawRight.j1]) ?_
          simp only [decide_eq_false (show ¬ (ns.length : Int) < 20 by omega), Bool.false_eq_true, if_false, if_true, hwk, ck, Option.bind_some, hw1]
          exact hev
      | false =>
        by_cases cl : al.length < 20
        · obtain ⟨ns', al', i', h', hev, q⟩ := ih (d + 1) ns (al ++ [d]) i1 g1 (by omega) (by omega) (by omega) hn.next (ha.add h1 ck cl) p1
          refine ⟨ns', al', i', h', Ev.step (fun k => by rw [spec_l01DrawRight.l0]) ?_, q⟩
          simp only [if_pos (show d ≤ t by omega), spec_l01Once.f, e1, Option.bind_some, if_pos c, hwk, ck, Bool.false_eq_true, if_false]
          refine Ev.step (fun k => by rw [spec_l01DrawRight.j1]) ?_
          simp only [Bool.false_eq_true, if_false, hwk, ck, Option.bind_some, if_pos (show (al.length : Int) < 20 by omega), if_pos (show al.length < 17592186044416 by omega), hw1]
          exact hev
        · obtain ⟨ns', al', i', h', hev, q⟩ := ih (d + 1) ns al i1 g1 (by omega) (by omega) (by omega) hn.next ha.next p1
          refine ⟨ns', al', i', h', Ev.step (fun k => by rw [spec_l01DrawRight.l0]) ?_, q⟩
          simp only [if_pos (show d ≤ t by omega), spec_l01Once.f, e1, Option.bind_some, if_pos c, hwk, ck, Bool.false_eq_true, if_false]
          refine Ev.step (fun k => by rw [spec_l01DrawRight.j1]) ?_
          simp only [Bool.false_eq_true, if_false, hwk, ck, Option.bind_some, if_neg (show ¬ (al.length : Int) < 20 by omega), hw1]
          exact hev
    · obtain ⟨ns', al', i', h', hev, q⟩ := ih (d + 1) ns al i1 g1 (by omega) (by omega) (by omega) hn.next ha.next p1
      refine ⟨ns', al', i', h', Ev.step (fun k => by rw [spec_l01DrawRight.l0]) ?_, q⟩
      simp only [if_pos (show d ≤ t by omega), spec_l01Once.f, e1, Option.bind_some, if_neg c, hw1]
      exact hev
/-- A drawn right pattern. -/
theorem draw_right_pat (l : List Int) (hl : l.length ≤ 2000000) (i0 h0 : Int) (hi : Pl l i0) : ∃ w f t ns al i' h', Ev (fun k => spec_l01DrawRight.f k l i0 h0) (w, f, t, ns, al, i', h') ∧ patB w f t ns al = true ∧ (0 ≤ f ∧ f ≤ 59) ∧ t ≤ 138 ∧ Pl l i' := by
  obtain ⟨a, i1, g1, e1, b1, p1⟩ := below_pos l hl i0 h0 hi 60 (by omega) (by omega)
  obtain ⟨b, i2, g2, e2, b2, p2⟩ := below_pos l hl i1 g1 p1 128 (by omega) (by omega)
  obtain ⟨c, i3, g3, e3, b3, p3⟩ := below_pos l hl i2 g2 p2 80 (by omega) (by omega)
  obtain ⟨ns, al, i', h', hev, q1, q2, q3⟩ := draw_pat_loop l hl b a (a + c) (by omega) (by omega) _ a [] [] i3 g3 rfl (by omega) (by omega) ⟨List.Pairwise.nil, fun x hx => (by cases hx), by simp⟩ ⟨List.Pairwise.nil, fun x hx => (by cases hx), by simp⟩ p3
  refine ⟨b, a, a + c, ns, al, i', h', ?_, ?_, by omega, by omega, q3⟩
  · unfold spec_l01DrawRight.f
    simp only [e1, e2, e3, Option.bind_some, w64 (x := a + c) (by omega) (by omega)]
    exact hev
  · unfold patB
    rw [daysB_of q1.1 (fun x hx => by obtain ⟨h1, h2⟩ := q1.2.1 x hx; exact ⟨by omega, h2⟩) ns 0 rfl, daysB_of q2.1 (fun x hx => by obtain ⟨h1, h2⟩ := q2.2.1 x hx; exact ⟨by omega, h2⟩) al 0 rfl]
    simp only [Bool.and_true, Bool.and_eq_true, decide_eq_true_eq]
    exact ⟨⟨⟨by omega, by omega⟩, q1.2.2⟩, q2.2.2⟩
theorem at_nonneg (l : List Int) (hl : l.length ≤ 2000000) (hb : ∀ x ∈ l, (Lit.int .u8 x).wf = true) (i : Nat) (hi : i ≤ 1000) : ∃ r, laws_at.f l (i : Int) = some r ∧ 0 ≤ r ∧ r ≤ 255 := by
  unfold laws_at.f
  by_cases c : i < l.length
  · rw [if_pos (show (i : Int) < (l.length : Int) by omega), if_pos (show 0 ≤ (i : Int) by omega), rdI_at]
    have hm : l.getD i 0 ∈ l := by
      rw [List.getD_eq_getElem?_getD, List.getElem?_eq_getElem c]; exact List.getElem_mem c
    have := wf_u8 (hb _ hm)
    rw [w64 (by omega) (by omega)]
    exact ⟨_, rfl, by omega, by omega⟩
  · rw [if_neg (show ¬ (i : Int) < (l.length : Int) by omega)]
    rw [w64 (x := (i : Int) * 11) (by omega) (by omega), w64 (x := (l.length : Int) * 3) (by omega) (by omega), w64 (by omega) (by omega)]
    refine ⟨_, rfl, ?_⟩
    rw [Int.tmod_eq_emod_of_nonneg (by omega)]
    omega
theorem samePat_ev (w f t : Int) (ns al : List Int) (hn : ns.length ≤ 2000000) (ha : al.length ≤ 2000000) : Ev (fun k => laws_samePattern.f k w f t ns al w f t ns al) true := by
  unfold laws_samePattern.f
  simp only [if_true]
  refine Ev.bind (sameInts_ev ns hn) ?_
  simp only [if_true]
  refine Ev.bind (sameInts_ev al ha) ?_
  exact ev_some
section
variable {w f t n : Int} {ns al : List Int} (hp : patB w f t ns al = true) (hn : 0 ≤ n ∧ n ≤ 40) (ht : t ≤ 138)
include hp hn ht
theorem later_tail (l : List Int) (hll : l.length ≤ 2000000) (hb : ∀ x ∈ l, (Lit.int .u8 x).wf = true) (m : Nat) : ∀ d : Int, m = (t + 1 - d + 1).toNat → f - 1 ≤ d → d ≤ t + 2 →
    Ev (fun k => laws_FnLater.l0 k l n d w f t ns al (weekI w (n % 7)) (f + n) (t + n) (moved n ns) (moved n al)) true := by
  obtain ⟨p1, p2, p3, p4, p5, p6⟩ := patB_len hp
  have hp2 := patB_moved hp (n := n) (by omega) (by omega)
  have m5 : (moved n ns).length ≤ 2000000 := by rw [moved_length]; omega
  have m6 : (moved n al).length ≤ 2000000 := by rw [moved_length]; omega
  induction m with
  | zero =>
    intro d hm h1 h2
    obtain ⟨q, eq, bq⟩ := at_nonneg l hll hb 6 (by omega)
    have eq' : laws_at.f l 6 = some q := eq
    have hz : 0 ≤ Int.tmod q 9 ∧ Int.tmod q 9 ≤ 8 := by rw [Int.tmod_eq_emod_of_nonneg (by omega)]; omega
    have hmx : mx (f + Int.tmod q 9) f = f + Int.tmod q 9 := by unfold mx; split <;> omega
    have hmx2 : mx (f + Int.tmod q 9 + n) (f + n) = (f + Int.tmod q 9) + n := by unfold mx; split <;> omega
    have hx1 := impl_next_ev w f t ns al (f + Int.tmod q 9) (by omega) (by omega)
    have hx2 := impl_next_ev (weekI w (n % 7)) (f + n) (t + n) (moved n ns) (moved n al) (f + Int.tmod q 9 + n) m5 m6
    unfold nextR at hx1 hx2
    rw [if_pos hp, hmx] at hx1
    rw [if_pos hp2, hmx2, show t + n - (f + Int.tmod q 9 + n) + 1 = t - (f + Int.tmod q 9) + 1 by omega] at hx2
    refine Ev.step (fun k => by rw [laws_FnLater.l0]) ?_
    simp only [w64 (x := t + 1) (by omega) (by omega), if_neg (show ¬ d ≤ t + 1 by omega), eq', Option.bind_some, w64 (x := f + Int.tmod q 9) (by omega) (by omega)]
    refine Ev.bind hx1 ?_
    rcases nextN_moved p1 p2.1 (show 0 ≤ f + n by omega) ns al (t - (f + Int.tmod q 9) + 1).toNat (f + Int.tmod q 9) (by omega) with ⟨a1, a2⟩ | ⟨a1, a2, a3⟩
    · rw [a1]
      simp only [if_pos (show (-1 : Int) < 0 by decide), w64 (x := f + Int.tmod q 9 + n) (by omega) (by omega)]
      rw [a2] at hx2
      exact Ev.bind hx2 ev_some
    · rw [a3] at hx2
      have hr := impl_runsOn_ev w f t ns al (by omega) (by omega) (nextN w f t ns al (t - (f + Int.tmod q 9) + 1).toNat (f + Int.tmod q 9))
      unfold runsOnR at hr
      rw [hp, Bool.true_and, a2] at hr
      have hb2 : f ≤ nextN w f t ns al (t - (f + Int.tmod q 9) + 1).toNat (f + Int.tmod q 9) ∧ nextN w f t ns al (t - (f + Int.tmod q 9) + 1).toNat (f + Int.tmod q 9) ≤ t := by
        unfold onB at a2
        rw [Bool.and_eq_true, decide_eq_true_eq] at a2
        exact a2.1
      generalize nextN w f t ns al (t - (f + Int.tmod q 9) + 1).toNat (f + Int.tmod q 9) = r at *
      simp only [if_neg (show ¬ r < 0 by omega), if_pos (show r ≥ f + Int.tmod q 9 from a1)]
      refine Ev.bind hr ?_
      simp only [if_true, w64 (x := f + Int.tmod q 9 + n) (by omega) (by omega)]
      refine Ev.bind hx2 ?_
      rw [w64 (x := r + n) (by omega) (by omega), beq_self_eq_true]
      exact ev_some
  | succ m ih =>
    intro d hm h1 h2
    have hi := ih (d + 1) (by omega) (by omega) (by omega)
    have h1' := impl_runsOn_ev w f t ns al (by omega) (by omega) d
    have h2' := impl_runsOn_ev (weekI w (n % 7)) (f + n) (t + n) (moved n ns) (moved n al) m5 m6 (d + n)
    have h3' := spec_runsOn_ev w f t ns al (by omega) (by omega) d
    unfold runsOnR at h1' h2' h3'
    rw [hp, Bool.true_and] at h1' h3'
    rw [hp2, Bool.true_and, onB_moved p1 p2.1 (by omega)] at h2'
    refine Ev.step (fun k => by rw [laws_FnLater.l0]) ?_
    simp only [w64 (x := t + 1) (by omega) (by omega), if_pos (show d ≤ t + 1 by omega), w64 (x := d + n) (by omega) (by omega)]
    refine Ev.bind h1' (Ev.bind h2' ?_)
    simp only [bne_self_eq_false, Bool.false_eq_true, if_false]
    refine Ev.bind h1' (Ev.bind h3' ?_)
    simp only [bne_self_eq_false, Bool.false_eq_true, if_false, w64 (x := d + 1) (by omega) (by omega)]
    exact hi
end
theorem FnLater : laws_FnLater.PureR := by
  intro l ⟨_, hb⟩
  refine Ev.rounds ?_
  unfold laws_FnLater.f laws_big.f
  simp only [Option.bind_some, decide_eq_true_eq]
  by_cases h : (l.length : Int) > 1048576
  · simp only [if_pos h]; exact ev_some
  · simp only [if_neg h]
    have hll : l.length ≤ 2000000 := by omega
    obtain ⟨h0, e0⟩ := new_ev l hll
    obtain ⟨w, f, t, ns, al, i', h', ed, hp, hf, ht, _⟩ := draw_right_pat l hll 0 h0 (pl0 l)
    have ed2 : Ev (fun k => spec_DrawRightPattern.f k l) (w, f, t, ns, al) := by
      unfold spec_DrawRightPattern.f
      exact Ev.bind e0 (Ev.bind ed ev_some)
    refine Ev.bind ed2 ?_
    obtain ⟨q, eq, bq⟩ := at_nonneg l hll hb 5 (by omega)
    have eq' : laws_at.f l 5 = some q := eq
    obtain ⟨n, en⟩ : ∃ n, Int.tmod q 41 = n := ⟨_, rfl⟩
    have hn : 0 ≤ n ∧ n ≤ 40 := by rw [← en, Int.tmod_eq_emod_of_nonneg (by omega)]; omega
    obtain ⟨p1, p2, p3, p4, p5, p6⟩ := patB_len hp
    have hok : latOk w f t ns al n := ⟨hp, by omega, by omega, by omega⟩
    have hp2 := patB_moved hp (n := n) (by omega) (by omega)
    have m5 : (moved n ns).length ≤ 2000000 := by rw [moved_length]; omega
    have m6 : (moved n al).length ≤ 2000000 := by rw [moved_length]; omega
    have hl := impl_later_ev w f t ns al n (by omega) (by omega)
    rw [latR_ok hok] at hl
    have hl2 := impl_later_ev (weekI w (n % 7)) (f + n) (t + n) (moved n ns) (moved n al) (-n) m5 m6
    rw [latR_back hok] at hl2
    have hk1 := impl_pat_ev w f t ns al (by omega) (by omega)
    rw [hp] at hk1
    have hk2 := impl_pat_ev (weekI w (n % 7)) (f + n) (t + n) (moved n ns) (moved n al) m5 m6
    rw [hp2] at hk2
    have hr1 := impl_runs_ev w f t ns al (by omega) (by omega)
    have hr2 := impl_runs_ev (weekI w (n % 7)) (f + n) (t + n) (moved n ns) (moved n al) m5 m6
    unfold runsR at hr1 hr2
    rw [if_pos hp] at hr1
    rw [if_pos hp2, runsN_moved p1 p2.1 (by omega), show t + n - (f + n) + 1 = t - f + 1 by omega] at hr2
    simp only [eq', Option.bind_some, en]
    refine Ev.bind hl (Ev.bind hk1 ?_)
    simp only [if_true]
    refine Ev.bind hk2 ?_
    simp only [if_true, w64 (x := -n) (by omega) (by omega)]
    refine Ev.bind hl2 (Ev.bind (samePat_ev w f t ns al (by omega) (by omega)) ?_)
    simp only [if_true]
    refine Ev.bind hr2 (Ev.bind hr1 ?_)
    simp only [bne_self_eq_false]
    refine Ev.step (fun k => by rw [laws_FnLater.j0]) ?_
    simp only [Bool.false_eq_true, if_false, w64 (x := f - 1) (by omega) (by omega)]
    exact later_tail hp hn ht l hll hb _ (f - 1) rfl (by omega) (by omega)

end Go.Proofs.Ytgjhlkjfdlkndaa.Pure
