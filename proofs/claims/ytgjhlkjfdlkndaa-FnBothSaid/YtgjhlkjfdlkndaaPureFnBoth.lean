/- The pattern of both of two drawn patterns runs just on the days on which both run, and as often as it says; it is the reference's. -/
import Derived.Test.YtgjhlkjfdlkndaaRowFnBoth
namespace Go.Proofs.Ytgjhlkjfdlkndaa.Pure
open Go.RowKit Go.Proofs.Ytgjhlkjfdlkndaa.PFnBoth Go.Proofs.YtgjhlkjfdlkndaaW.PrintWords Go.Proofs.YtgjhlkjfdlkndaaW.PrintLast Go.Proofs.YtgjhlkjfdlkndaaW.PrintMore
set_option linter.unusedVariables false
set_option linter.unusedSimpArgs false
theorem w64 {x : Int} (h0 : -9223372036854775808 ≤ x) (h1 : x ≤ 9223372036854775807) : wrap64 x = x := by unfold wrap64; omega
theorem ev_k {α : Type} {g : Nat → Option α} {r : α} (h : ∀ k, g k = some r) : Ev g r := ⟨0, fun k _ => h k⟩
theorem ev_some {α : Type} {r : α} : Ev (fun _ => some r) r := Ev.now r
theorem wf_i64 {x : Int} (h : (Lit.int .i64 x).wf = true) : -9223372036854775808 ≤ x ∧ x ≤ 9223372036854775807 := by
  simp only [Lit.wf, Bool.and_eq_true, decide_eq_true_eq] at h
  have h1 : IntKind.min .i64 = -9223372036854775808 := by decide
  have h2 : IntKind.max .i64 = 9223372036854775807 := by decide
  omega
theorem wf_u8 {x : Int} (h : (Lit.int .u8 x).wf = true) : 0 ≤ x ∧ x ≤ 255 := by
  simp only [Lit.wf, Bool.and_eq_true, decide_eq_true_eq] at h
  have h1 : IntKind.min .u8 = 0 := by decide
  have h2 : IntKind.max .u8 = 255 := by decide
  omega
/-! Loops over lists, whatever the elements. -/
theorem nat_w {j : Nat} (h : j ≤ 9223372036854775806) : wrap64 ((j : Int) + 1) = ((j + 1 : Nat) : Int) := by rw [w64 (by omega) (by omega)]; omega
theorem set_take {α : Type} {acc ys : List α} {j : Nat} (hl : acc.length = ys.length) (ht : acc.take j = ys.take j) (hj : j < ys.length) {v : α} (hv : ys[j]? = some v) : (acc.set j v).take (j + 1) = ys.take (j + 1) := by
  apply List.ext_getElem?
  intro i
  by_cases hi : i < j + 1
  · rw [List.getElem?_take_of_lt hi, List.getElem?_take_of_lt hi]
    by_cases e : i = j
    · subst e
      rw [List.getElem?_set_self (by omega), hv]
    · rw [List.getElem?_set_ne (by omega)]
      have h1 := congrArg (fun l => l[i]?) ht
      simp only [List.getElem?_take_of_lt (show i < j by omega)] at h1
      exact h1
  · rw [List.getElem?_eq_none (by simp; omega), List.getElem?_eq_none (by simp; omega)]
theorem getD_some {α : Type} {xs : List α} {j : Nat} (h : j < xs.length) (d : α) : xs[j]? = some (xs.getD j d) := by
  rw [List.getD_eq_getElem?_getD, List.getElem?_eq_getElem h]; rfl
/-- A loop that writes g of each element of xs into a row of the same length. -/
theorem copy_loop {α β : Type} (g : β → α) (d : β) (xs : List β) (L : Nat → List α → Int → Option (List α)) (hn : xs.length ≤ 9223372036854775806)
    (hs : ∀ k acc (j : Nat), L (k + 1) acc (j : Int) = if j < xs.length then (if j < acc.length then L k (acc.set j (g (xs.getD j d))) (wrap64 ((j : Int) + 1)) else none) else some acc)
    (m : Nat) : ∀ (j : Nat) (acc : List α), xs.length - j = m → j ≤ xs.length → acc.length = xs.length → acc.take j = (xs.map g).take j → Ev (fun k => L k acc (j : Int)) (xs.map g) := by
  induction m with
  | zero =>
    intro j acc h0 h1 h2 h3
    refine Ev.step (fun k => hs k acc j) ?_
    simp only [if_neg (show ¬ j < xs.length by omega)]
    have e : acc = xs.map g := by
      have h4 : acc.take j = acc := List.take_of_length_le (by omega)
      have h5 : (xs.map g).take j = xs.map g := List.take_of_length_le (by simp; omega)
      rw [← h4, h3, h5]
    rw [e]
    exact ev_some
  | succ m ih =>
    intro j acc h0 h1 h2 h3
    refine Ev.step (fun k => hs k acc j) ?_
    simp only [if_pos (show j < xs.length by omega), if_pos (show j < acc.length by omega)]
    rw [nat_w (by omega)]
    refine ih (j + 1) _ (by omega) (by omega) (by simpa using h2) ?_
    refine set_take (by simpa using h2) h3 (by simp; omega) ?_
    rw [List.getElem?_map, getD_some (show j < xs.length by omega) d]
    rfl
/-- A loop that asks each index, and goes on where the answer is yes. -/
theorem all_loop (n : Nat) (L : Nat → Int → Option Bool) (hn : n ≤ 9223372036854775806) (hs : ∀ k (j : Nat), j < n → L (k + 1) (j : Int) = L k (wrap64 ((j : Int) + 1))) (he : ∀ k, L (k + 1) (n : Int) = some true)
    (m : Nat) : ∀ j : Nat, n - j = m → j ≤ n → Ev (fun k => L k (j : Int)) true := by
  induction m with
  | zero =>
    intro j h0 h1
    obtain rfl : j = n := by omega
    exact Ev.step (fun k => he k) ev_some
  | succ m ih =>
    intro j h0 h1
    refine Ev.step (fun k => hs k j (by omega)) ?_
    rw [nat_w (by omega)]
    exact ih (j + 1) (by omega) (by omega)
/-- The elements one behind the other, each turned by f with a number that goes on by c. -/
def marked {α : Type} (c : Int) (f : Int → α → α) : Int → List α → List α
  | _, [] => []
  | s, x :: xs => f s x :: marked c f (s + c) xs
theorem marked_length {α : Type} (c : Int) (f : Int → α → α) : ∀ (s : Int) (xs : List α), (marked c f s xs).length = xs.length
  | _, [] => rfl
  | s, x :: xs => by simp [marked, marked_length c f (s + c) xs]
theorem marked_at {α : Type} (c : Int) (f : Int → α → α) : ∀ (s : Int) (xs : List α) (j : Nat) (d : α), j < xs.length → (marked c f s xs)[j]? = some (f (s + c * j) (xs.getD j d))
  | _, [], j, d, h => by simp at h
  | s, x :: xs, 0, d, _ => by simp [marked]
  | s, x :: xs, j + 1, d, h => by
    have := marked_at c f (s + c) xs j d (by simpa using h)
    simp only [marked, List.getElem?_cons_succ, List.getD_cons_succ]
    rw [this]
    congr 2
    rw [Int.natCast_succ, Int.mul_add]; omega
/-- A loop that marks a row. -/
theorem mark_loop {α : Type} (c : Nat) (hc : c ≤ 8) (f : Int → α → α) (d : α) (xs : List α) (L : Nat → List α → Int → Int → Option (Int × List α)) (hn : xs.length ≤ 2000000) (s0 : Nat) (hs0 : s0 ≤ 20000000)
    (hs : ∀ k acc (s : Nat) (j : Nat), acc.length = xs.length → s ≤ 40000000 → j < xs.length → L (k + 1) acc (s : Int) (j : Int) = L k (acc.set j (f (s : Int) (acc.getD j d))) ((s + c : Nat) : Int) (wrap64 ((j : Int) + 1)))
    (he : ∀ k acc (s : Int), acc.length = xs.length → L (k + 1) acc s (xs.length : Int) = some (s, acc))
    (m : Nat) : ∀ (j : Nat) (acc : List α), xs.length - j = m → j ≤ xs.length → acc.length = xs.length → acc.take j = (marked c f s0 xs).take j → acc.drop j = xs.drop j → Ev (fun k => L k acc ((s0 + c * j : Nat) : Int) (j : Int)) (((s0 + c * xs.length : Nat) : Int), marked c f s0 xs) := by
  induction m with
  | zero =>
    intro j acc h0 h1 h2 h3 _
    obtain rfl : j = xs.length := by omega
    refine Ev.step (fun k => he k acc _ h2) ?_
    have e : acc = marked c f s0 xs := by
      have h4 : acc.take xs.length = acc := List.take_of_length_le (by omega)
      have h5 : (marked c f s0 xs).take xs.length = marked c f s0 xs := List.take_of_length_le (by rw [marked_length]; omega)
      rw [← h4, h3, h5]
    rw [e]
    exact ev_some
  | succ m ih =>
    intro j acc h0 h1 h2 h3 h4
    have hb : c * j ≤ 8 * 2000000 := Nat.mul_le_mul hc (by omega)
    refine Ev.step (fun k => hs k acc _ j h2 (by omega) (by omega)) ?_
    rw [nat_w (by omega), show s0 + c * j + c = s0 + c * (j + 1) by rw [Nat.mul_add]; omega]
    have hg : acc.getD j d = xs.getD j d := by
      have h5 := congrArg (fun l => l[0]?) h4
      simp only [List.getElem?_drop, Nat.add_zero] at h5
      rw [List.getD_eq_getElem?_getD, List.getD_eq_getElem?_getD, h5]
    refine ih (j + 1) _ (by omega) (by omega) (by simpa using h2) ?_ ?_
    · refine set_take (by rw [marked_length]; exact h2) h3 (by rw [marked_length]; omega) ?_
      rw [marked_at c f s0 xs j d (by omega), hg]
      simp
    · rw [List.drop_set_of_lt (by omega), ← List.drop_drop, h4, List.drop_drop]
/-- A loop that looks whether a row is marked so. -/
theorem held_loop (c : Nat) (hc : c ≤ 8) (n : Nat) (L : Nat → Int → Int → Option Int) (hn : n ≤ 2000000) (s0 : Nat) (hs0 : s0 ≤ 20000000)
    (hs : ∀ k (j : Nat), j < n → L (k + 1) ((s0 + c * j : Nat) : Int) (j : Int) = L k ((s0 + c * j + c : Nat) : Int) (wrap64 ((j : Int) + 1)))
    (he : ∀ k (s : Int), L (k + 1) s (n : Int) = some s)
    (m : Nat) : ∀ j : Nat, n - j = m → j ≤ n → Ev (fun k => L k ((s0 + c * j : Nat) : Int) (j : Int)) (((s0 + c * n : Nat) : Int)) := by
  induction m with
  | zero =>
    intro j h0 h1
    obtain rfl : j = n := by omega
    exact Ev.step (fun k => he k _) ev_some
  | succ m ih =>
    intro j h0 h1
    refine Ev.step (fun k => hs k j (by omega)) ?_
    rw [nat_w (by omega), show s0 + c * j + c = s0 + c * (j + 1) by rw [Nat.mul_add]; omega]
    exact ih (j + 1) (by omega) (by omega)
theorem drop_cons {α : Type} {xs : List α} {j : Nat} {t : α} {rest : List α} (h : xs.drop j = t :: rest) : j < xs.length ∧ (∀ d, xs.getD j d = t) ∧ xs.drop (j + 1) = rest := by
  have hj : j < xs.length := by
    rcases Nat.lt_or_ge j xs.length with h1 | h1
    · exact h1
    · rw [List.drop_of_length_le h1] at h; cases h
  rw [List.drop_eq_getElem_cons hj] at h
  injection h with h1 h2
  exact ⟨hj, fun d => by rw [List.getD_eq_getElem?_getD, List.getElem?_eq_getElem hj, ← h1]; rfl, h2⟩
theorem drop_nil {α : Type} {xs : List α} {j : Nat} (h : xs.drop j = []) : xs.length ≤ j := by simpa using h
theorem rdI_at (xs : List Int) (j : Nat) : rd xs (j : Int) = xs.getD j 0 := by unfold rd; rw [Int.toNat_natCast]
theorem rdB_at (xs : List Bool) (j : Nat) : rdOf false xs (j : Int) = xs.getD j false := by unfold rdOf; rw [Int.toNat_natCast]
theorem spec_in (x lo hi : Int) : spec_l01In.f x lo hi = some (decide (lo ≤ x ∧ x ≤ hi)) := by
  unfold spec_l01In.f
  by_cases h : lo ≤ x <;> simp [h]
theorem impl_in (x lo hi : Int) : impl_between.f x lo hi = some (decide (lo ≤ x ∧ x ≤ hi)) := by
  unfold impl_between.f
  by_cases h : x ≥ lo
  · have h' : lo ≤ x := h
    simp [h, h']
  · have h' : ¬ lo ≤ x := h
    simp [h, h']
/-! Days and patterns. -/
def wk (w d : Int) : Bool := Go.bits .and .i64 (shr .i64 w (Int.tmod d 7)) 1 == 1
def prevOk (xs : List Int) (j : Nat) : Bool := j == 0 || decide (xs.getD (j - 1) 0 < xs.getD j 0)
def dayB (w f t : Int) (b : Bool) (xs : List Int) (j : Nat) (d : Int) : Bool := decide (f ≤ d ∧ d ≤ t) && prevOk xs j && (wk w d == b)
def daysB (w f t : Int) (b : Bool) (xs : List Int) : Nat → List Int → Bool
  | _, [] => true
  | j, d :: ds => dayB w f t b xs j d && daysB w f t b xs (j + 1) ds
def patB (w f t : Int) (ns al : List Int) : Bool :=
  decide (0 ≤ w ∧ w ≤ 127) && decide (0 ≤ f ∧ f ≤ t ∧ t ≤ 3650) && (decide (ns.length ≤ 20) && daysB w f t true ns 0 ns) && (decide (al.length ≤ 20) && daysB w f t false al 0 al)
def onB (w f t : Int) (ns al : List Int) (d : Int) : Bool := decide (f ≤ d ∧ d ≤ t) && (if wk w d = true then !decide (d ∈ ns) else decide (d ∈ al))
theorem daysB_all {w f t : Int} {b : Bool} {xs : List Int} : ∀ (l : List Int) (j : Nat), daysB w f t b xs j l = true → ∀ d ∈ l, (f ≤ d ∧ d ≤ t) ∧ wk w d = b
  | [], _, _, d, h => by cases h
  | x :: l, j, h, d, hd => by
    simp only [daysB, dayB, Bool.and_eq_true, decide_eq_true_eq, beq_iff_eq] at h
    rcases List.mem_cons.mp hd with rfl | h2
    · exact ⟨h.1.1.1, h.1.2⟩
    · exact daysB_all l (j + 1) h.2 d h2
/-- One weekday moved by r days. -/
def stI (w r : Int) (a : Int) (k : Nat) : Int := if Go.bits .and .i64 (shr .i64 w (k : Int)) 1 = 1 then Go.bits .or .i64 a (shl .i64 1 (((k : Int) + r) % 7)) else a
def stS (w r : Int) (a : Int) (k : Nat) : Int := if wk w (k : Int) = true then wrap64 (a + shl .i64 1 (((k : Int) + r) % 7)) else a
def weekI (w r : Int) : Int := (List.range 7).foldl (stI w r) 0
def weekS (w r : Int) : Int := (List.range 7).foldl (stS w r) 0
theorem chk_week : (List.range 128).all (fun w => (List.range 7).all (fun r => decide (weekI (w : Int) (r : Int) = weekS (w : Int) (r : Int)) && (decide (0 ≤ weekI (w : Int) (r : Int) ∧ weekI (w : Int) (r : Int) ≤ 127) && (List.range 7).all (fun d => wk (weekI (w : Int) (r : Int)) (((d : Int) + (r : Int)) % 7) == wk (w : Int) (d : Int))))) = true := by decide +kernel
theorem week_all {w r : Int} (h0 : 0 ≤ w) (h1 : w ≤ 127) (r0 : 0 ≤ r) (r1 : r < 7) : weekI w r = weekS w r ∧ (0 ≤ weekI w r ∧ weekI w r ≤ 127) ∧ ∀ d : Int, 0 ≤ d → d < 7 → wk (weekI w r) ((d + r) % 7) = wk w d := by
  have h := chk_week
  rw [List.all_eq_true] at h
  have h2 := h w.toNat (List.mem_range.2 (by omega))
  rw [List.all_eq_true] at h2
  have h3 := h2 r.toNat (List.mem_range.2 (by omega))
  rw [Int.toNat_of_nonneg h0, Int.toNat_of_nonneg r0] at h3
  simp only [Bool.and_eq_true, decide_eq_true_eq, List.all_eq_true, beq_iff_eq] at h3
  refine ⟨h3.1, h3.2.1, fun d d0 d1 => ?_⟩
  have h4 := h3.2.2 d.toNat (List.mem_range.2 (by omega))
  rw [Int.toNat_of_nonneg d0] at h4
  exact h4
def moved (n : Int) (l : List Int) : List Int := l.map (· + n)
abbrev Pat := Int × Int × Int × List Int × List Int
def latOk (w f t : Int) (ns al : List Int) (n : Int) : Prop := patB w f t ns al = true ∧ (-3650 ≤ n ∧ n ≤ 3650) ∧ 0 ≤ f + n ∧ t + n ≤ 3650
instance (w f t : Int) (ns al : List Int) (n : Int) : Decidable (latOk w f t ns al n) := by unfold latOk; infer_instance
def latR (w f t : Int) (ns al : List Int) (n : Int) : Pat := if latOk w f t ns al n then (weekI w (n % 7), f + n, t + n, moved n ns, moved n al) else (0, 0, 0, [], [])
theorem patB_len {w f t : Int} {ns al : List Int} (h : patB w f t ns al = true) : (0 ≤ w ∧ w ≤ 127) ∧ (0 ≤ f ∧ f ≤ t ∧ t ≤ 3650) ∧ (∀ d ∈ ns, f ≤ d ∧ d ≤ t) ∧ (∀ d ∈ al, f ≤ d ∧ d ≤ t) ∧ ns.length ≤ 20 ∧ al.length ≤ 20 := by
  simp only [patB, Bool.and_eq_true, decide_eq_true_eq] at h
  exact ⟨h.1.1.1, h.1.1.2, fun d hd => (daysB_all ns 0 h.1.2.2 d hd).1, fun d hd => (daysB_all al 0 h.2.2 d hd).1, h.1.2.1, h.2.1⟩
theorem latR_len (w f t : Int) (ns al : List Int) (n : Int) : (latR w f t ns al n).2.2.2.1.length ≤ 20 ∧ (latR w f t ns al n).2.2.2.2.length ≤ 20 := by
  unfold latR
  split
  · rename_i h
    obtain ⟨_, _, _, _, a, b⟩ := patB_len h.1
    simp only [moved, List.length_map]; exact ⟨a, b⟩
  · exact ⟨Nat.zero_le _, Nat.zero_le _⟩
theorem moved_step (n : Int) (l : List Int) (j : Nat) (h : j < l.length) : moved n (l.take (j + 1)) = moved n (l.take j) ++ [l.getD j 0 + n] := by
  unfold moved
  rw [List.take_add_one, List.getElem?_eq_getElem h, List.map_append, List.getD_eq_getElem?_getD, List.getElem?_eq_getElem h]; rfl
theorem fold_next (g : Int → Nat → Int) (j : Nat) : (List.range (j + 1)).foldl g 0 = g ((List.range j).foldl g 0) j := by
  rw [List.range_succ, List.foldl_append]; rfl
theorem spec_week_ev (w d : Int) (h0 : 0 ≤ d) : spec_l01Week.f w d = some (wk w d) := by
  have h7 : Int.tmod d 7 = d % 7 := Int.tmod_eq_emod_of_nonneg h0
  have hm : spec_l01Mod.f d 7 = some (Int.tmod d 7) := by
    unfold spec_l01Mod.f
    rw [if_neg (by decide), if_neg (by rw [h7]; omega)]
  have hw : IntKind.u64.wrap (Int.tmod d 7) = Int.tmod d 7 := by
    rw [h7]
    have : IntKind.u64.wrap (d % 7) = (d % 7) % 18446744073709551616 := rfl
    rw [this]; omega
  unfold spec_l01Week.f wk
  rw [hm]
  simp only [Option.bind_some, hw]
  rw [if_pos (by rw [h7]; omega)]
theorem spec_days_loop (w f t : Int) (h0 : 0 ≤ f) (b : Bool) (xs ns al : List Int) (hn : xs.length ≤ 2000000) : ∀ (rest : List Int) (j : Nat), xs.drop j = rest → j ≤ xs.length →
    Ev (fun k => spec_l01Days.l0 k xs b (j : Int) w f t ns al) (daysB w f t b xs j rest && decide (xs.length ≤ 20)) := by
  intro rest
  induction rest with
  | nil =>
    intro j h hl
    have := drop_nil h
    refine Ev.step (fun k => by rw [spec_l01Days.l0]) ?_
    simp only [if_neg (show ¬ (j : Int) < (xs.length : Int) by omega), daysB, Bool.true_and]
    have e : decide ((xs.length : Int) ≤ 20) = decide (xs.length ≤ 20) := decide_eq_decide.mpr (by omega)
    rw [e]; exact ev_some
  | cons d rest ih =>
    intro j h hl
    obtain ⟨h1, h2, h3⟩ := drop_cons h
    refine Ev.step (fun k => by rw [spec_l01Days.l0]) ?_
    simp only [if_pos (show (j : Int) < (xs.length : Int) by omega), if_pos (show 0 ≤ (j : Int) by omega), rdI_at, h2, spec_in, Option.bind_some, decide_eq_true_eq]
    by_cases c1 : f ≤ d ∧ d ≤ t
    · have hd : 0 ≤ d := by omega
      simp only [if_pos c1, spec_week_ev w d hd, Option.bind_some, nat_w (show j ≤ 9223372036854775806 by omega)]
      have hi := ih (j + 1) h3 (by omega)
      by_cases c0 : j = 0
      · subst c0
        simp only [if_neg (show ¬ ((0 : Nat) : Int) > 0 by omega)]
        by_cases c2 : wk w d = b
        · subst c2
          simpa [daysB, dayB, c1, prevOk] using hi
        · have c3 : (wk w d != b) = true := by simpa using c2
          simp only [c3, if_true]
          have e : (wk w d == b) = false := by simpa using c2
          simp only [daysB, dayB, e, Bool.and_false, Bool.false_and]
          exact ev_some
      · simp only [if_pos (show (j : Int) > 0 by omega), show (j : Int) - 1 = ((j - 1 : Nat) : Int) by omega, w64 (x := ((j - 1 : Nat) : Int)) (by omega) (by omega), if_pos (show 0 ≤ ((j - 1 : Nat) : Int) by omega), if_pos (show ((j - 1 : Nat) : Int) < (xs.length : Int) by omega), rdI_at]
        by_cases c4 : xs.getD (j - 1) 0 ≥ d
        · simp only [if_pos c4]
          have e : prevOk xs j = false := by
            unfold prevOk; rw [h2]
            simp only [Bool.or_eq_false_iff, beq_eq_false_iff_ne, decide_eq_false_iff_not]
            exact ⟨c0, by omega⟩
          simp only [daysB, dayB, e, Bool.and_false, Bool.false_and]
          exact ev_some
        · simp only [if_neg c4]
          have e : prevOk xs j = true := by
            unfold prevOk; rw [h2]
            simp only [Bool.or_eq_true, decide_eq_true_eq]
            exact Or.inr (by omega)
          by_cases c2 : wk w d = b
          · subst c2
            simpa [daysB, dayB, c1, e] using hi
          · have c3 : (wk w d != b) = true := by simpa using c2
            simp only [c3, if_true]
            have e : (wk w d == b) = false := by simpa using c2
            simp only [daysB, dayB, e, Bool.and_false, Bool.false_and]
            exact ev_some
    · simp only [if_neg c1, daysB, dayB, decide_eq_false c1, Bool.false_and]
      exact ev_some
theorem spec_days_ev (w f t : Int) (h0 : 0 ≤ f) (b : Bool) (xs ns al : List Int) (hn : xs.length ≤ 2000000) : Ev (fun k => spec_l01Days.f k xs w f t ns al b) (decide (xs.length ≤ 20) && daysB w f t b xs 0 xs) := by
  rw [Bool.and_comm]
  exact spec_days_loop w f t h0 b xs ns al hn xs 0 rfl (by omega)
theorem spec_pat_ev (w f t : Int) (ns al : List Int) (hn : ns.length ≤ 2000000) (ha : al.length ≤ 2000000) : Ev (fun k => spec_PatternOk.f k w f t ns al) (patB w f t ns al) := by
  unfold spec_PatternOk.f patB
  simp only [spec_in, Option.bind_some, decide_eq_true_eq]
  by_cases c1 : 0 ≤ w ∧ w ≤ 127
  · by_cases c2 : 0 ≤ t ∧ t ≤ 3650
    · by_cases c3 : 0 ≤ f ∧ f ≤ t
      · simp only [if_pos c1, if_pos c2, if_pos c3]
        rw [decide_eq_true c1, decide_eq_true (show 0 ≤ f ∧ f ≤ t ∧ t ≤ 3650 by omega)]
        simp only [Bool.true_and]
        refine Ev.bind (spec_days_ev w f t c3.1 true ns ns al hn) ?_
        cases hd : (decide (ns.length ≤ 20) && daysB w f t true ns 0 ns) with
        | false => simpa using ev_some
        | true =>
          simp only [if_true, Bool.true_and]
          exact Ev.bind (spec_days_ev w f t c3.1 false al ns al ha) ev_some
      · simp only [if_pos c1, if_pos c2, if_neg c3]
        rw [decide_eq_false (show ¬ (0 ≤ f ∧ f ≤ t ∧ t ≤ 3650) by omega)]
        simpa using ev_some
    · simp only [if_pos c1, if_neg c2]
      rw [decide_eq_false (show ¬ (0 ≤ f ∧ f ≤ t ∧ t ≤ 3650) by omega)]
      simpa using ev_some
  · simp only [if_neg c1, decide_eq_false c1, Bool.false_and]
    exact ev_some
theorem impl_week_ev (w d : Int) (h0 : 0 ≤ d) : impl_inWeek.f w d = some (wk w d) := by
  have h7 : Int.tmod d 7 = d % 7 := Int.tmod_eq_emod_of_nonneg h0
  unfold impl_inWeek.f wk
  rw [if_pos (by rw [h7]; omega)]
theorem impl_days_loop (w f t : Int) (h0 : 0 ≤ f) (b : Bool) (xs ns al : List Int) (hn : xs.length ≤ 2000000) : ∀ (rest : List Int) (j : Nat), xs.drop j = rest → j ≤ xs.length →
    Ev (fun k => impl_daysOk.l0 k xs b xs (xs.length : Int) (j : Int) w f t ns al) (daysB w f t b xs j rest) := by
  intro rest
  induction rest with
  | nil =>
    intro j h hl
    have := drop_nil h
    refine Ev.step (fun k => by rw [impl_daysOk.l0]) ?_
    simp only [if_neg (show ¬ (j : Int) < (xs.length : Int) by omega), daysB]
    exact ev_some
  | cons d rest ih =>
    intro j h hl
    obtain ⟨h1, h2, h3⟩ := drop_cons h
    refine Ev.step (fun k => by rw [impl_daysOk.l0]) ?_
    simp only [if_pos (show (j : Int) < (xs.length : Int) by omega), if_pos (show 0 ≤ (j : Int) by omega), rdI_at, h2, impl_in, Option.bind_some, decide_eq_true_eq]
    by_cases c1 : f ≤ d ∧ d ≤ t
    · have hd : 0 ≤ d := by omega
      simp only [if_pos c1, impl_week_ev w d hd, Option.bind_some, nat_w (show j ≤ 9223372036854775806 by omega)]
      have hi := ih (j + 1) h3 (by omega)
      by_cases c2 : wk w d = b
      · have c3 : (wk w d != b) = false := by simpa using c2
        have e2 : (wk w d == b) = true := by simpa using c2
        simp only [c3, Bool.false_eq_true, if_false]
        by_cases c0 : j = 0
        · subst c0
          simp only [if_neg (show ¬ ((0 : Nat) : Int) > 0 by omega)]
          simpa [daysB, dayB, c1, e2, prevOk] using hi
        · simp only [if_pos (show (j : Int) > 0 by omega), show (j : Int) - 1 = ((j - 1 : Nat) : Int) by omega, w64 (x := ((j - 1 : Nat) : Int)) (by omega) (by omega), if_pos (show 0 ≤ ((j - 1 : Nat) : Int) by omega), if_pos (show ((j - 1 : Nat) : Int) < (xs.length : Int) by omega), rdI_at]
          by_cases c4 : xs.getD (j - 1) 0 ≥ d
          · simp only [if_pos c4]
            have e : prevOk xs j = false := by
              unfold prevOk; rw [h2]
              simp only [Bool.or_eq_false_iff, beq_eq_false_iff_ne, decide_eq_false_iff_not]
              exact ⟨c0, by omega⟩
            simp only [daysB, dayB, e, Bool.and_false, Bool.false_and]
            exact ev_some
          · simp only [if_neg c4]
            have e : prevOk xs j = true := by
              unfold prevOk; rw [h2]
              simp only [Bool.or_eq_true, decide_eq_true_eq]
              exact Or.inr (by omega)
            simpa [daysB, dayB, c1, e, e2] using hi
      · have c3 : (wk w d != b) = true := by simpa using c2
        simp only [c3, if_true]
        have e : (wk w d == b) = false := by simpa using c2
        simp only [daysB, dayB, e, Bool.and_false, Bool.false_and]
        exact ev_some
    · simp only [if_neg c1, daysB, dayB, decide_eq_false c1, Bool.false_and]
      exact ev_some
theorem impl_days_ev (w f t : Int) (h0 : 0 ≤ f) (b : Bool) (xs ns al : List Int) (hn : xs.length ≤ 2000000) : Ev (fun k => impl_daysOk.f k w f t ns al xs b) (decide (xs.length ≤ 20) && daysB w f t b xs 0 xs) := by
  unfold impl_daysOk.f
  by_cases c : (xs.length : Int) > 20
  · simp only [if_pos c]
    rw [decide_eq_false (show ¬ xs.length ≤ 20 by omega), Bool.false_and]
    exact ev_some
  · simp only [if_neg c]
    rw [decide_eq_true (show xs.length ≤ 20 by omega), Bool.true_and]
    exact impl_days_loop w f t h0 b xs ns al hn xs 0 rfl (by omega)
theorem impl_pat_ev (w f t : Int) (ns al : List Int) (hn : ns.length ≤ 2000000) (ha : al.length ≤ 2000000) : Ev (fun k => impl_PatternOk.f k w f t ns al) (patB w f t ns al) := by
  unfold impl_PatternOk.f patB
  simp only [impl_in, Option.bind_some, decide_eq_true_eq]
  have hno : ∀ r, r = false → Ev (fun k => impl_PatternOk.j0 k true w f t ns al) r := fun r hr => by
    rw [hr]
    exact Ev.step (fun k => by rw [impl_PatternOk.j0]) (by simpa using ev_some)
  by_cases c1 : 0 ≤ w ∧ w ≤ 127
  · simp only [if_pos c1]
    by_cases c2 : f < 0
    · simp only [if_pos c2]
      exact hno _ (by rw [decide_eq_false (show ¬ (0 ≤ f ∧ f ≤ t ∧ t ≤ 3650) by omega)]; simp)
    · by_cases c3 : f > t
      · simp only [if_neg c2, if_pos c3]
        exact hno _ (by rw [decide_eq_false (show ¬ (0 ≤ f ∧ f ≤ t ∧ t ≤ 3650) by omega)]; simp)
      · by_cases c4 : t > 3650
        · simp only [if_neg c2, if_neg c3, decide_eq_true c4]
          exact hno _ (by rw [decide_eq_false (show ¬ (0 ≤ f ∧ f ≤ t ∧ t ≤ 3650) by omega)]; simp)
        · simp only [if_neg c2, if_neg c3, decide_eq_false c4]
          rw [decide_eq_true c1, decide_eq_true (show 0 ≤ f ∧ f ≤ t ∧ t ≤ 3650 by omega)]
          simp only [Bool.true_and]
          refine Ev.step (fun k => by rw [impl_PatternOk.j0]) ?_
          simp only [Bool.false_eq_true, if_false]
          refine Ev.bind (impl_days_ev w f t (by omega) true ns ns al hn) ?_
          cases hd : (decide (ns.length ≤ 20) && daysB w f t true ns 0 ns) with
          | false => simpa using ev_some
          | true =>
            simp only [if_true, Bool.true_and]
            exact Ev.bind (impl_days_ev w f t (by omega) false al ns al ha) ev_some
  · simp only [if_neg c1, decide_eq_false c1, Bool.false_and]
    exact hno _ rfl
theorem spec_has_loop (xs : List Int) (d : Int) (hn : xs.length ≤ 2000000) : ∀ (rest : List Int) (j : Nat), xs.drop j = rest → j ≤ xs.length → Ev (fun k => spec_l01Has.l0 k xs d (j : Int)) (decide (d ∈ rest)) := by
  intro rest
  induction rest with
  | nil =>
    intro j h hl
    have := drop_nil h
    refine Ev.step (fun k => by rw [spec_l01Has.l0]) ?_
    simp only [if_neg (show ¬ (j : Int) < (xs.length : Int) by omega)]
    simpa using ev_some
  | cons x rest ih =>
    intro j h hl
    obtain ⟨h1, h2, h3⟩ := drop_cons h
    refine Ev.step (fun k => by rw [spec_l01Has.l0]) ?_
    simp only [if_pos (show (j : Int) < (xs.length : Int) by omega), if_pos (show 0 ≤ (j : Int) by omega), rdI_at, h2]
    by_cases c : x = d
    · simp only [if_pos c]
      rw [decide_eq_true (by rw [c]; exact List.mem_cons_self ..)]
      exact ev_some
    · simp only [if_neg c, nat_w (show j ≤ 9223372036854775806 by omega)]
      have e : decide (d ∈ x :: rest) = decide (d ∈ rest) := decide_eq_decide.mpr (by rw [List.mem_cons]; exact ⟨fun h => h.resolve_left (fun e => c e.symm), Or.inr⟩)
      rw [e]
      exact ih (j + 1) h3 (by omega)
theorem spec_has_ev (xs : List Int) (d : Int) (hn : xs.length ≤ 2000000) : Ev (fun k => spec_l01Has.f k xs d) (decide (d ∈ xs)) := spec_has_loop xs d hn xs 0 rfl (by omega)
theorem impl_has_loop (xs : List Int) (d : Int) (hn : xs.length ≤ 2000000) : ∀ (rest : List Int) (j : Nat), xs.drop j = rest → j ≤ xs.length → Ev (fun k => impl_has.l0 k d xs (xs.length : Int) (j : Int)) (decide (d ∈ rest)) := by
  intro rest
  induction rest with
  | nil =>
    intro j h hl
    have := drop_nil h
    refine Ev.step (fun k => by rw [impl_has.l0]) ?_
    simp only [if_neg (show ¬ (j : Int) < (xs.length : Int) by omega)]
    simpa using ev_some
  | cons x rest ih =>
    intro j h hl
    obtain ⟨h1, h2, h3⟩ := drop_cons h
    refine Ev.step (fun k => by rw [impl_has.l0]) ?_
    simp only [if_pos (show (j : Int) < (xs.length : Int) by omega), if_pos (show 0 ≤ (j : Int) by omega), rdI_at, h2]
    by_cases c : x = d
    · simp only [if_pos c]
      rw [decide_eq_true (by rw [c]; exact List.mem_cons_self ..)]
      exact ev_some
    · simp only [if_neg c, nat_w (show j ≤ 9223372036854775806 by omega)]
      have e : decide (d ∈ x :: rest) = decide (d ∈ rest) := decide_eq_decide.mpr (by rw [List.mem_cons]; exact ⟨fun h => h.resolve_left (fun e => c e.symm), Or.inr⟩)
      rw [e]
      exact ih (j + 1) h3 (by omega)
theorem impl_has_ev (xs : List Int) (d : Int) (hn : xs.length ≤ 2000000) : Ev (fun k => impl_has.f k xs d) (decide (d ∈ xs)) := impl_has_loop xs d hn xs 0 rfl (by omega)
theorem patB_parts {w f t : Int} {ns al : List Int} (h : patB w f t ns al = true) : (0 ≤ w ∧ w ≤ 127) ∧ (0 ≤ f ∧ f ≤ t ∧ t ≤ 3650) ∧ (∀ d ∈ ns, (f ≤ d ∧ d ≤ t) ∧ wk w d = true) ∧ (∀ d ∈ al, (f ≤ d ∧ d ≤ t) ∧ wk w d = false) ∧ ns.length ≤ 20 ∧ al.length ≤ 20 := by
  simp only [patB, Bool.and_eq_true, decide_eq_true_eq] at h
  exact ⟨h.1.1.1, h.1.1.2, daysB_all ns 0 h.1.2.2, daysB_all al 0 h.2.2, h.1.2.1, h.2.1⟩
theorem impl_on_ev (w f t : Int) (ns al : List Int) (hn : ns.length ≤ 2000000) (ha : al.length ≤ 2000000) (h0 : 0 ≤ f) (d : Int) : Ev (fun k => impl_runsOn.f k w f t ns al d) (onB w f t ns al d) := by
  unfold impl_runsOn.f onB
  simp only [impl_in, Option.bind_some, decide_eq_true_eq]
  by_cases c : f ≤ d ∧ d ≤ t
  · simp only [if_pos c, decide_eq_true c, Bool.true_and, impl_week_ev w d (show 0 ≤ d by omega), Option.bind_some]
    by_cases c2 : wk w d = true
    · simp only [if_pos c2]
      exact Ev.bind (impl_has_ev ns d hn) ev_some
    · simp only [if_neg c2]
      exact Ev.bind (impl_has_ev al d ha) ev_some
  · simp only [if_neg c, decide_eq_false c, Bool.false_and]
    exact ev_some
/-! The pattern of both of two. -/
def skN (W : Int) (o : Int → Bool) : Nat → Int → List Int
  | 0, _ => []
  | m + 1, d => (if (wk W d && !o d) = true then [d] else []) ++ skN W o m (d + 1)
def exN (W : Int) (o : Int → Bool) : Nat → Int → List Int
  | 0, _ => []
  | m + 1, d => (if (!wk W d && o d) = true then [d] else []) ++ exN W o m (d + 1)
def finB (W F T : Int) (xs ys : List Int) : Pat := if xs.length > 20 then (0, 0, 0, [], []) else (if ys.length > 20 then (0, 0, 0, [], []) else (W, F, T, xs, ys))
def bothO (w f t : Int) (ns al : List Int) (w2 f2 t2 : Int) (ns2 al2 : List Int) (d : Int) : Bool := onB w f t ns al d && onB w2 f2 t2 ns2 al2 d
def bothR (w f t : Int) (ns al : List Int) (w2 f2 t2 : Int) (ns2 al2 : List Int) : Pat :=
  if patB w f t ns al = true ∧ patB w2 f2 t2 ns2 al2 = true then (if mx f f2 > mn t t2 then (0, 0, 0, [], []) else
    finB (Go.bits .and .i64 w w2) (mx f f2) (mn t t2) (skN (Go.bits .and .i64 w w2) (bothO w f t ns al w2 f2 t2 ns2 al2) (mn t t2 - mx f f2 + 1).toNat (mx f f2)) (exN (Go.bits .and .i64 w w2) (bothO w f t ns al w2 f2 t2 ns2 al2) (mn t t2 - mx f f2 + 1).toNat (mx f f2))) else (0, 0, 0, [], [])
theorem finB_len (W F T : Int) (xs ys : List Int) : (finB W F T xs ys).2.2.2.1.length ≤ 20 ∧ (finB W F T xs ys).2.2.2.2.length ≤ 20 := by
  unfold finB
  by_cases c : xs.length > 20
  · simp only [if_pos c]; exact ⟨Nat.zero_le _, Nat.zero_le _⟩
  · simp only [if_neg c]
    by_cases c2 : ys.length > 20
    · simp only [if_pos c2]; exact ⟨Nat.zero_le _, Nat.zero_le _⟩
    · simp only [if_neg c2]; exact ⟨by omega, by omega⟩
theorem bothR_len (w f t : Int) (ns al : List Int) (w2 f2 t2 : Int) (ns2 al2 : List Int) : (bothR w f t ns al w2 f2 t2 ns2 al2).2.2.2.1.length ≤ 20 ∧ (bothR w f t ns al w2 f2 t2 ns2 al2).2.2.2.2.length ≤ 20 := by
  unfold bothR
  split
  · split
    · exact ⟨Nat.zero_le _, Nat.zero_le _⟩
    · exact finB_len _ _ _ _ _
  · exact ⟨Nat.zero_le _, Nat.zero_le _⟩
theorem mxn (f f2 t t2 : Int) : (mx f f2 = f ∨ mx f f2 = f2) ∧ f ≤ mx f f2 ∧ f2 ≤ mx f f2 ∧ (mn t t2 = t ∨ mn t t2 = t2) ∧ mn t t2 ≤ t ∧ mn t t2 ≤ t2 := by
  unfold mx mn
  split <;> split <;> omega
theorem impl_both_j2 {w f t : Int} {ns al : List Int} {w2 f2 t2 : Int} {ns2 al2 : List Int} {W F T : Int} {xs ys : List Int} {d : Int} (hd : 0 ≤ d ∧ d ≤ 100000) (hx : xs.length ≤ 100000) (hy : ys.length ≤ 100000) (b o : Bool) {r : Pat}
    (h : Ev (fun k => impl_Both.l0 k (d + 1) w f t ns al w2 f2 t2 ns2 al2 W F T (xs ++ if (b && !o) = true then [d] else []) (ys ++ if (!b && o) = true then [d] else [])) r) :
    Ev (fun k => impl_Both.j2 k d b o w f t ns al w2 f2 t2 ns2 al2 W F T xs ys) r := by
  have hw : wrap64 (d + 1) = d + 1 := w64 (by omega) (by omega)
  refine Ev.step (fun k => by rw [impl_Both.j2]) ?_
  cases b <;> cases o
  all_goals
    simp only [Bool.false_eq_true, if_false, if_true, Bool.not_true, Bool.not_false, Bool.and_true, Bool.and_false, Bool.true_and, Bool.false_and, List.append_nil] at h ⊢
    refine Ev.step (fun k => by rw [impl_Both.j3]) ?_
    simp only [Bool.false_eq_true, if_false, if_true, if_pos (show xs.length < 17592186044416 by omega), if_pos (show ys.length < 17592186044416 by omega), hw]
    exact h
theorem impl_both_loop {w f t : Int} {ns al : List Int} {w2 f2 t2 : Int} {ns2 al2 : List Int} (hp : patB w f t ns al = true) (hq : patB w2 f2 t2 ns2 al2 = true) (W F T : Int) (hT : T ≤ 3650) : ∀ (m : Nat) (d : Int) (xs ys : List Int), m = (T - d + 1).toNat → 0 ≤ d → xs.length + m ≤ 8000 → ys.length + m ≤ 8000 →
    Ev (fun k => impl_Both.l0 k d w f t ns al w2 f2 t2 ns2 al2 W F T xs ys) (finB W F T (xs ++ skN W (bothO w f t ns al w2 f2 t2 ns2 al2) m d) (ys ++ exN W (bothO w f t ns al w2 f2 t2 ns2 al2) m d)) := by
  obtain ⟨_, hp2, _, _, hpn, hpa⟩ := patB_parts hp
  obtain ⟨_, hq2, _, _, hqn, hqa⟩ := patB_parts hq
  intro m
  induction m with
  | zero =>
    intro d xs ys hm hd hx hy
    refine Ev.step (fun k => by rw [impl_Both.l0]) ?_
    simp only [if_neg (show ¬ d ≤ T by omega), skN, exN, List.append_nil, finB]
    by_cases c : xs.length > 20
    · simp only [if_pos (show (xs.length : Int) > 20 by omega), if_pos c]; exact ev_some
    · simp only [if_neg (show ¬ (xs.length : Int) > 20 by omega), if_neg c]
      by_cases c2 : ys.length > 20
      · simp only [if_pos (show (ys.length : Int) > 20 by omega), if_pos c2]; exact ev_some
      · simp only [if_neg (show ¬ (ys.length : Int) > 20 by omega), if_neg c2]; exact ev_some
  | succ m ih =>
    intro d xs ys hm hd hx hy
    have hi := ih (d + 1) (xs ++ if (wk W d && !bothO w f t ns al w2 f2 t2 ns2 al2 d) = true then [d] else []) (ys ++ if (!wk W d && bothO w f t ns al w2 f2 t2 ns2 al2 d) = true then [d] else []) (by omega) (by omega)
      (by rw [List.length_append]; split <;> simp only [List.length_cons, List.length_nil] <;> omega) (by rw [List.length_append]; split <;> simp only [List.length_cons, List.length_nil] <;> omega)
    rw [List.append_assoc, List.append_assoc] at hi
    have hj := impl_both_j2 (d := d) ⟨hd, by omega⟩ (by omega) (by omega) _ _ hi
    refine Ev.step (fun k => by rw [impl_Both.l0]) ?_
    simp only [if_pos (show d ≤ T by omega), impl_week_ev W d hd, Option.bind_some]
    refine Ev.bind (impl_on_ev w f t ns al (by omega) (by omega) hp2.1 d) ?_
    cases c : onB w f t ns al d with
    | true =>
      simp only [if_true]
      refine Ev.bind (impl_on_ev w2 f2 t2 ns2 al2 (by omega) (by omega) hq2.1 d) ?_
      have e : bothO w f t ns al w2 f2 t2 ns2 al2 d = onB w2 f2 t2 ns2 al2 d := by unfold bothO; rw [c, Bool.true_and]
      rw [← e]
      exact hj
    | false =>
      simp only [Bool.false_eq_true, if_false]
      have e : bothO w f t ns al w2 f2 t2 ns2 al2 d = false := by unfold bothO; rw [c, Bool.false_and]
      rw [← e]
      exact hj
theorem impl_both_ev (w f t : Int) (ns al : List Int) (w2 f2 t2 : Int) (ns2 al2 : List Int) (h1 : ns.length ≤ 2000000) (h2 : al.length ≤ 2000000) (h3 : ns2.length ≤ 2000000) (h4 : al2.length ≤ 2000000) : Ev (fun k => impl_Both.f k w f t ns al w2 f2 t2 ns2 al2) (bothR w f t ns al w2 f2 t2 ns2 al2) := by
  have hno : ∀ r, r = (0, 0, 0, [], []) → Ev (fun k => impl_Both.j0 k true w f t ns al w2 f2 t2 ns2 al2) r := fun r hr => by
    rw [hr]; exact Ev.step (fun k => by rw [impl_Both.j0]) (by simpa using ev_some)
  unfold impl_Both.f bothR
  refine Ev.bind (impl_pat_ev w f t ns al h1 h2) ?_
  by_cases hp : patB w f t ns al = true
  · simp only [hp, if_true]
    refine Ev.bind (impl_pat_ev w2 f2 t2 ns2 al2 h3 h4) ?_
    by_cases hq : patB w2 f2 t2 ns2 al2 = true
    · simp only [hq, Bool.not_true, if_pos (show True ∧ True from ⟨trivial, trivial⟩)]
      obtain ⟨_, p2, _⟩ := patB_parts hp
      obtain ⟨_, q2, _⟩ := patB_parts hq
      obtain ⟨m1, m2, m3, m4, m5, m6⟩ := mxn f f2 t t2
      refine Ev.step (fun k => by rw [impl_Both.j0]) ?_
      simp only [Bool.false_eq_true, if_false]
      by_cases c : mx f f2 > mn t t2
      · simp only [if_pos c]; exact ev_some
      · simp only [if_neg c]
        have := impl_both_loop hp hq (Go.bits .and .i64 w w2) (mx f f2) (mn t t2) (by omega) _ (mx f f2) [] [] rfl (by omega) (by simp; omega) (by simp; omega)
        rw [List.nil_append, List.nil_append] at this
        exact this
    · have hq' : patB w2 f2 t2 ns2 al2 = false := by simpa using hq
      simp only [hq', Bool.not_false]
      exact hno _ (by rw [if_neg (fun h => by cases h.2)])
  · have hp' : patB w f t ns al = false := by simpa using hp
    simp only [hp', Bool.false_eq_true, if_false]
    exact hno _ (by rw [if_neg (fun h => h.1)])
theorem spec_on_ev (w f t : Int) (ns al : List Int) (hp : patB w f t ns al = true) (d : Int) : Ev (fun k => spec_l01On.f k w f t ns al d) (onB w f t ns al d) := by
  obtain ⟨_, h2, _, h4, hn, ha⟩ := patB_parts hp
  unfold spec_l01On.f onB
  simp only [spec_in, Option.bind_some, decide_eq_true_eq]
  by_cases c : f ≤ d ∧ d ≤ t
  · simp only [if_pos c, decide_eq_true c, Bool.true_and, spec_week_ev w d (show 0 ≤ d by omega), Option.bind_some]
    by_cases c2 : wk w d = true
    · simp only [if_pos c2]
      refine Ev.bind (spec_has_ev ns d (by omega)) ?_
      by_cases c3 : d ∈ ns
      · simp only [decide_eq_true c3, if_true, Bool.not_true]
        refine Ev.bind (spec_has_ev al d (by omega)) ?_
        rw [decide_eq_false (fun h => by have := (h4 d h).2; rw [c2] at this; cases this)]
        exact ev_some
      · simp only [decide_eq_false c3, Bool.false_eq_true, if_false, Bool.not_false]
        exact ev_some
    · simp only [if_neg c2]
      exact Ev.bind (spec_has_ev al d (by omega)) ev_some
  · simp only [if_neg c, decide_eq_false c, Bool.false_and]
    exact ev_some
theorem spec_both_j4 {w f t : Int} {ns al : List Int} {w2 f2 t2 : Int} {ns2 al2 : List Int} {W F T : Int} {xs ys : List Int} {d : Int} (hd : 0 ≤ d ∧ d ≤ 100000) (hx : xs.length ≤ 100000) (hy : ys.length ≤ 100000) (o : Bool) {r : Pat}
    (h : Ev (fun k => spec_Both.l0 k (d + 1) w f t ns al w2 f2 t2 ns2 al2 W F T (xs ++ if (wk W d && !o) = true then [d] else []) (ys ++ if (!wk W d && o) = true then [d] else [])) r) :
    Ev (fun k => spec_Both.j4 k d o w f t ns al w2 f2 t2 ns2 al2 W F T xs ys) r := by
  have hw : wrap64 (d + 1) = d + 1 := w64 (by omega) (by omega)
  have hk := spec_week_ev W d hd.1
  refine Ev.step (fun k => by rw [spec_Both.j4]) ?_
  simp only [hk, Option.bind_some]
  cases cb : wk W d <;> cases o
  all_goals
    rw [cb] at h hk
    simp only [Bool.false_eq_true, if_false, if_true, Bool.not_true, Bool.not_false, Bool.and_true, Bool.and_false, Bool.true_and, Bool.false_and, List.append_nil] at h ⊢
    refine Ev.step (fun k => by rw [spec_Both.j5]) ?_
    simp only [Bool.false_eq_true, if_false, if_true, if_pos (show xs.length < 17592186044416 by omega), if_pos (show ys.length < 17592186044416 by omega), hw, hk, Option.bind_some]
    exact h
theorem spec_both_loop {w f t : Int} {ns al : List Int} {w2 f2 t2 : Int} {ns2 al2 : List Int} (hp : patB w f t ns al = true) (hq : patB w2 f2 t2 ns2 al2 = true) (W F T : Int) (hT : T ≤ 3650) : ∀ (m : Nat) (d : Int) (xs ys : List Int), m = (T - d + 1).toNat → 0 ≤ d → xs.length + m ≤ 8000 → ys.length + m ≤ 8000 →
    Ev (fun k => spec_Both.l0 k d w f t ns al w2 f2 t2 ns2 al2 W F T xs ys) (finB W F T (xs ++ skN W (bothO w f t ns al w2 f2 t2 ns2 al2) m d) (ys ++ exN W (bothO w f t ns al w2 f2 t2 ns2 al2) m d)) := by
  intro m
  induction m with
  | zero =>
    intro d xs ys hm hd hx hy
    refine Ev.step (fun k => by rw [spec_Both.l0]) ?_
    simp only [if_neg (show ¬ d ≤ T by omega), skN, exN, List.append_nil, finB]
    by_cases c : xs.length > 20
    · simp only [if_pos (show (xs.length : Int) > 20 by omega), if_pos c]; exact ev_some
    · simp only [if_neg (show ¬ (xs.length : Int) > 20 by omega), if_neg c]
      by_cases c2 : ys.length > 20
      · simp only [if_pos (show (ys.length : Int) > 20 by omega), if_pos c2]; exact ev_some
      · simp only [if_neg (show ¬ (ys.length : Int) > 20 by omega), if_neg c2]; exact ev_some
  | succ m ih =>
    intro d xs ys hm hd hx hy
    have hi := ih (d + 1) (xs ++ if (wk W d && !bothO w f t ns al w2 f2 t2 ns2 al2 d) = true then [d] else []) (ys ++ if (!wk W d && bothO w f t ns al w2 f2 t2 ns2 al2 d) = true then [d] else []) (by omega) (by omega)
      (by rw [List.length_append]; split <;> simp only [List.length_cons, List.length_nil] <;> omega) (by rw [List.length_append]; split <;> simp only [List.length_cons, List.length_nil] <;> omega)
    rw [List.append_assoc, List.append_assoc] at hi
    have hj := spec_both_j4 (d := d) ⟨hd, by omega⟩ (by omega) (by omega) _ hi
    refine Ev.step (fun k => by rw [spec_Both.l0]) ?_
    simp only [if_pos (show d ≤ T by omega)]
    refine Ev.bind (spec_on_ev w f t ns al hp d) ?_
    cases c : onB w f t ns al d with
    | true =>
      simp only [if_true]
      refine Ev.bind (spec_on_ev w2 f2 t2 ns2 al2 hq d) ?_
      have e : bothO w f t ns al w2 f2 t2 ns2 al2 d = onB w2 f2 t2 ns2 al2 d := by unfold bothO; rw [c, Bool.true_and]
      rw [← e]
      exact hj
    | false =>
      simp only [Bool.false_eq_true, if_false]
      have e : bothO w f t ns al w2 f2 t2 ns2 al2 d = false := by unfold bothO; rw [c, Bool.false_and]
      rw [← e]
      exact hj
theorem spec_both_j1 {w f t : Int} {ns al : List Int} {w2 f2 t2 : Int} {ns2 al2 : List Int} {W F T : Int} {r : Pat} (hr : r = if F > mn t t2 then (0, 0, 0, [], []) else r)
    (h : ¬ F > mn t t2 → Ev (fun k => spec_Both.l0 k F w f t ns al w2 f2 t2 ns2 al2 W F (mn t t2) [] []) r) (hT : T = t) :
    Ev (fun k => spec_Both.j1 k w f t ns al w2 f2 t2 ns2 al2 W F T) r := by
  subst hT
  have hj : Ev (fun k => spec_Both.j2 k w f T ns al w2 f2 t2 ns2 al2 W F (mn T t2)) r := by
    refine Ev.step (fun k => by rw [spec_Both.j2]) ?_
    by_cases c : F > mn T t2
    · simp only [if_pos c]
      rw [if_pos c] at hr
      rw [hr]; exact ev_some
    · simp only [if_neg c]; exact h c
  refine Ev.step (fun k => by rw [spec_Both.j1]) ?_
  by_cases c : t2 < T
  · simp only [if_pos c]
    have : mn T t2 = t2 := by unfold mn; rw [if_pos c]
    rw [this] at hj; exact hj
  · simp only [if_neg c]
    have : mn T t2 = T := by unfold mn; rw [if_neg c]
    rw [this] at hj; exact hj
theorem spec_both_ev (w f t : Int) (ns al : List Int) (w2 f2 t2 : Int) (ns2 al2 : List Int) (h1 : ns.length ≤ 2000000) (h2 : al.length ≤ 2000000) (h3 : ns2.length ≤ 2000000) (h4 : al2.length ≤ 2000000) : Ev (fun k => spec_Both.f k w f t ns al w2 f2 t2 ns2 al2) (bothR w f t ns al w2 f2 t2 ns2 al2) := by
  have hno : ∀ r, r = (0, 0, 0, [], []) → Ev (fun k => spec_Both.j0 k true w f t ns al w2 f2 t2 ns2 al2) r := fun r hr => by
    rw [hr]; exact Ev.step (fun k => by rw [spec_Both.j0]) (by simpa using ev_some)
  unfold spec_Both.f bothR
  refine Ev.bind (spec_pat_ev w f t ns al h1 h2) ?_
  by_cases hp : patB w f t ns al = true
  · simp only [hp, if_true]
    refine Ev.bind (spec_pat_ev w2 f2 t2 ns2 al2 h3 h4) ?_
    by_cases hq : patB w2 f2 t2 ns2 al2 = true
    · simp only [hq, Bool.not_true, if_pos (show True ∧ True from ⟨trivial, trivial⟩)]
      obtain ⟨_, p2, _⟩ := patB_parts hp
      obtain ⟨_, q2, _⟩ := patB_parts hq
      obtain ⟨m1, m2, m3, m4, m5, m6⟩ := mxn f f2 t t2
      refine Ev.step (fun k => by rw [spec_Both.j0]) ?_
      simp only [Bool.false_eq_true, if_false]
      have hgo : Ev (fun k => spec_Both.j1 k w f t ns al w2 f2 t2 ns2 al2 (Go.bits .and .i64 w w2) (mx f f2) t) (if mx f f2 > mn t t2 then (0, 0, 0, [], []) else
          finB (Go.bits .and .i64 w w2) (mx f f2) (mn t t2) (skN (Go.bits .and .i64 w w2) (bothO w f t ns al w2 f2 t2 ns2 al2) (mn t t2 - mx f f2 + 1).toNat (mx f f2)) (exN (Go.bits .and .i64 w w2) (bothO w f t ns al w2 f2 t2 ns2 al2) (mn t t2 - mx f f2 + 1).toNat (mx f f2))) := by
        refine spec_both_j1 (by split <;> rfl) (fun c => ?_) rfl
        rw [if_neg c]
        have := spec_both_loop hp hq (Go.bits .and .i64 w w2) (mx f f2) (mn t t2) (by omega) _ (mx f f2) [] [] rfl (by omega) (by simp; omega) (by simp; omega)
        rw [List.nil_append, List.nil_append] at this
        exact this
      by_cases c : f2 > f
      · simp only [if_pos c]
        have : mx f f2 = f2 := by unfold mx; rw [if_pos (show f < f2 by omega)]
        rw [this] at hgo ⊢; exact hgo
      · simp only [if_neg c]
        have : mx f f2 = f := by unfold mx; rw [if_neg (show ¬ f < f2 by omega)]
        rw [this] at hgo ⊢; exact hgo
    · have hq' : patB w2 f2 t2 ns2 al2 = false := by simpa using hq
      simp only [hq', Bool.not_false]
      exact hno _ (by rw [if_neg (fun h => by cases h.2)])
  · have hp' : patB w f t ns al = false := by simpa using hp
    simp only [hp', Bool.false_eq_true, if_false]
    exact hno _ (by rw [if_neg (fun h => h.1)])
theorem and255 (n : Int) : Go.bits .and .i64 n 255 = n % 256 := by
  have h255 : (BitVec.ofInt 64 255).toNat = 2 ^ 8 - 1 := by decide
  have key : (BitVec.ofInt 64 n &&& BitVec.ofInt 64 255).toNat = (n % ((2 ^ 64 : Nat) : Int)).toNat % 2 ^ 8 := by
    rw [BitVec.toNat_and, BitVec.toNat_ofInt, h255, Nat.and_two_pow_sub_one_eq_mod]
  show Go.IntKind.i64.wrap ((BitVec.ofInt 64 n &&& BitVec.ofInt 64 255).toNat : Nat) = n % 256
  rw [key, Go.IntKind.wrap_i64]
  omega
theorem new_loop (l : List Int) (hl : l.length ≤ 2000000) (m : Nat) : ∀ (j : Nat) (h : Int), l.length - j = m → j ≤ l.length → ∃ h', Ev (fun k => spec_l01New.l0 k l h (j : Int)) (l, 0, h') := by
  induction m with
  | zero =>
    intro j h h0 h1
    refine ⟨h, Ev.step (fun k => by rw [spec_l01New.l0]) ?_⟩
    simp only [if_neg (show ¬ (j : Int) < (l.length : Int) by omega)]
    exact ev_some
  | succ m ih =>
    intro j h h0 h1
    by_cases c : (j : Int) < 4000
    · obtain ⟨h', hh⟩ := ih (j + 1) (Go.bits .and .i64 (wrap64 ((wrap64 ((wrap64 (h * 137)) + (wrap64 (rd l (j : Int))))) + 11)) 1073741823) (by omega) (by omega)
      refine ⟨h', Ev.step (fun k => by rw [spec_l01New.l0]) ?_⟩
      simp only [if_pos (show (j : Int) < (l.length : Int) by omega), if_pos c, if_pos (show 0 ≤ (j : Int) by omega), nat_w (show j ≤ 9223372036854775806 by omega)]
      exact hh
    · refine ⟨h, Ev.step (fun k => by rw [spec_l01New.l0]) ?_⟩
      simp only [if_pos (show (j : Int) < (l.length : Int) by omega), if_neg c]
      exact ev_some
theorem new_ev (l : List Int) (hl : l.length ≤ 2000000) : ∃ h, Ev (fun k => spec_l01New.f k l) (l, 0, h) := by
  unfold spec_l01New.f
  obtain ⟨h, hh⟩ := new_loop l hl l.length 0 (wrap64 (75075 + (l.length : Int))) (by omega) (by omega)
  exact ⟨h, by simpa using hh⟩
/-- A place in the bytes of a draw. -/
def Pl (l : List Int) (i : Int) : Prop := 0 ≤ i ∧ i ≤ (l.length : Int)
theorem byte_ev (l : List Int) (hl : l.length ≤ 2000000) (i h : Int) (hi : Pl l i) : ∃ r i' h', spec_l01Byte.f l i h = some (r, i', h') ∧ (0 ≤ r ∧ r ≤ 255) ∧ Pl l i' := by
  unfold Pl at *
  unfold spec_l01Byte.f
  by_cases c : i < (l.length : Int)
  · simp only [if_pos c, if_pos hi.1, and255]
    refine ⟨_, _, _, rfl, by omega, ?_⟩
    rw [w64 (by omega) (by omega)]
    omega
  · simp only [if_neg c, and255]
    exact ⟨_, _, _, rfl, by omega, hi⟩
theorem below_ev (l : List Int) (hl : l.length ≤ 2000000) (i h : Int) (hi : Pl l i) (n : Int) (hn : n ≤ 16777216) : ∃ r i' h', spec_l01Below.f l i h n = some (r, i', h') ∧ (0 ≤ r ∧ (r < n ∨ r = 0)) ∧ Pl l i' := by
  unfold spec_l01Below.f
  by_cases c0 : n ≤ 0
  · simp only [if_pos c0]
    exact ⟨_, _, _, rfl, by omega, hi⟩
  · simp only [if_neg c0]
    by_cases c1 : n ≤ 256
    · obtain ⟨r, i', h', e, hr, hp⟩ := byte_ev l hl i h hi
      simp only [if_pos c1, e, Option.bind_some, if_neg (show ¬ n = 0 by omega)]
      refine ⟨_, _, _, rfl, ?_, hp⟩
      rw [Int.tmod_eq_emod_of_nonneg hr.1]
      have := Int.emod_nonneg r (show n ≠ 0 by omega)
      have := Int.emod_lt_of_pos r (show 0 < n by omega)
      omega
    · obtain ⟨r, i', h', e, hr, hp⟩ := byte_ev l hl i h hi
      obtain ⟨r2, i2, h2, e2, hr2, hp2⟩ := byte_ev l hl i' h' hp
      obtain ⟨r3, i3, h3, e3, hr3, hp3⟩ := byte_ev l hl i2 h2 hp2
      simp only [if_neg c1, e, e2, e3, Option.bind_some, if_neg (show ¬ n = 0 by omega)]
      refine ⟨_, _, _, rfl, ?_, hp3⟩
      rw [w64 (x := r * 65536) (by omega) (by omega), w64 (x := r2 * 256) (by omega) (by omega), w64 (x := r * 65536 + r2 * 256) (by omega) (by omega), w64 (x := r * 65536 + r2 * 256 + r3) (by omega) (by omega)]
      rw [Int.tmod_eq_emod_of_nonneg (by omega)]
      have := Int.emod_nonneg (r * 65536 + r2 * 256 + r3) (show n ≠ 0 by omega)
      have := Int.emod_lt_of_pos (r * 65536 + r2 * 256 + r3) (show 0 < n by omega)
      omega
/-- The same where n is above 0. -/
theorem below_pos (l : List Int) (hl : l.length ≤ 2000000) (i h : Int) (hi : Pl l i) (n : Int) (h0 : 0 < n) (hn : n ≤ 16777216) : ∃ r i' h', spec_l01Below.f l i h n = some (r, i', h') ∧ (0 ≤ r ∧ r < n) ∧ Pl l i' := by
  obtain ⟨r, i', h', e, hr, hp⟩ := below_ev l hl i h hi n hn
  exact ⟨r, i', h', e, by omega, hp⟩
theorem pl0 (l : List Int) : Pl l 0 := by unfold Pl; omega
theorem daysB_of {w f t : Int} {b : Bool} {xs : List Int} (h1 : xs.Pairwise (· < ·)) (h2 : ∀ x ∈ xs, (f ≤ x ∧ x ≤ t) ∧ wk w x = b) : ∀ (l : List Int) (j : Nat), xs.drop j = l → daysB w f t b xs j l = true
  | [], _, _ => rfl
  | x :: l, j, h => by
    obtain ⟨a1, a2, a3⟩ := drop_cons h
    have hm : x ∈ xs := by
      have : x ∈ xs.drop j := by rw [h]; exact List.mem_cons_self ..
      exact List.mem_of_mem_drop this
    obtain ⟨b1, b2⟩ := h2 x hm
    simp only [daysB, dayB, daysB_of h1 h2 l (j + 1) a3, Bool.and_true, Bool.and_eq_true, decide_eq_true_eq, beq_iff_eq]
    refine ⟨⟨b1, ?_⟩, b2⟩
    unfold prevOk
    cases j with
    | zero => rfl
    | succ j =>
      have hlt := (List.pairwise_iff_getElem.1 h1) j (j + 1) (by omega) a1 (by omega)
      rw [List.getD_eq_getElem?_getD, List.getD_eq_getElem?_getD, List.getElem?_eq_getElem (show j + 1 - 1 < xs.length by omega), List.getElem?_eq_getElem a1]
      simp only [Option.getD_some, Nat.add_sub_cancel, Bool.or_eq_true, decide_eq_true_eq]
      exact Or.inr hlt
/-- A list of days so far. -/
def Days (w f d : Int) (b : Bool) (xs : List Int) : Prop := xs.Pairwise (· < ·) ∧ (∀ x ∈ xs, (f ≤ x ∧ x < d) ∧ wk w x = b) ∧ xs.length ≤ 20
theorem Days.next {w f d : Int} {b : Bool} {xs : List Int} (h : Days w f d b xs) : Days w f (d + 1) b xs := ⟨h.1, fun x hx => by obtain ⟨h1, h2⟩ := h.2.1 x hx; exact ⟨by omega, h2⟩, h.2.2⟩
theorem Days.add {w f d : Int} {b : Bool} {xs : List Int} (h : Days w f d b xs) (hf : f ≤ d) (hw : wk w d = b) (hl : xs.length < 20) : Days w f (d + 1) b (xs ++ [d]) := by
  refine ⟨List.pairwise_append.2 ⟨h.1, List.pairwise_singleton _ _, fun x hx y hy => ?_⟩, fun x hx => ?_, by simp; omega⟩
  · rw [List.mem_singleton] at hy
    have := (h.2.1 x hx).1
    omega
  · rcases List.mem_append.1 hx with hx | hx
    · obtain ⟨h1, h2⟩ := h.2.1 x hx; exact ⟨by omega, h2⟩
    · rw [List.mem_singleton] at hx
      subst hx; exact ⟨by omega, hw⟩
theorem draw_pat_loop (l : List Int) (hl : l.length ≤ 2000000) (w f t : Int) (hf : 0 ≤ f) (ht : t ≤ 1000) (m : Nat) : ∀ (d : Int) (ns al : List Int) (i h : Int), m = (t - d + 1).toNat → f ≤ d → d ≤ t + 1 → Days w f d true ns → Days w f d false al → Pl l i →
    ∃ ns' al' i' h', Ev (fun k => spec_l01DrawRight.l0 k d l i h w f t ns al) (w, f, t, ns', al', i', h') ∧ Days w f (t + 1) true ns' ∧ Days w f (t + 1) false al' ∧ Pl l i' := by
  induction m with
  | zero =>
    intro d ns al i h hm h1 h2 hn ha hi
    obtain rfl : d = t + 1 := by omega
    refine ⟨ns, al, i, h, Ev.step (fun k => by rw [spec_l01DrawRight.l0]) ?_, hn, ha, hi⟩
    simp only [if_neg (show ¬ t + 1 ≤ t by omega)]
    exact ev_some
  | succ m ih =>
    intro d ns al i h hm h1 h2 hn ha hi
    obtain ⟨o, i1, g1, e1, b1, p1⟩ := below_pos l hl i h hi 9 (by omega) (by omega)
    have hw1 : wrap64 (d + 1) = d + 1 := w64 (by omega) (by omega)
    have hwk := spec_week_ev w d (show 0 ≤ d by omega)
    by_cases c : (o == 0) = true
    · cases ck : wk w d with
      | true =>
        by_cases cl : ns.length < 20
        · obtain ⟨ns', al', i', h', hev, q⟩ := ih (d + 1) (ns ++ [d]) al i1 g1 (by omega) (by omega) (by omega) (hn.add h1 ck cl) ha.next p1
          refine ⟨ns', al', i', h', Ev.step (fun k => by rw [spec_l01DrawRight.l0]) ?_, q⟩
          simp only [if_pos (show d ≤ t by omega), spec_l01Once.f, e1, Option.bind_some, if_pos c, hwk, ck, if_true]
          refine Ev.step (fun k => by rw [spec_l01DrawRight.j1]) ?_
          simp only [decide_eq_true (show (ns.length : Int) < 20 by omega), if_true, if_pos (show ns.length < 17592186044416 by omega), Option.bind_some, hwk, ck, hw1]
          exact hev
        · obtain ⟨ns', al', i', h', hev, q⟩ := ih (d + 1) ns al i1 g1 (by omega) (by omega) (by omega) hn.next ha.next p1
          refine ⟨ns', al', i', h', Ev.step (fun k => by rw [spec_l01DrawRight.l0]) ?_, q⟩
          simp only [if_pos (show d ≤ t by omega), spec_l01Once.f, e1, Option.bind_some, if_pos c, hwk, ck, if_true]
          refine Ev.step (fun k => by rw [spec_l01DrawRight.j1]) ?_
          simp only [decide_eq_false (show ¬ (ns.length : Int) < 20 by omega), Bool.false_eq_true, if_false, if_true, hwk, ck, Option.bind_some, hw1]
          exact hev
      | false =>
        by_cases cl : al.length < 20
        · obtain ⟨ns', al', i', h', hev, q⟩ := ih (d + 1) ns (al ++ [d]) i1 g1 (by omega) (by omega) (by omega) hn.next (ha.add h1 ck cl) p1
          refine ⟨ns', al', i', h', Ev.step (fun k => by rw [spec_l01DrawRight.l0]) ?_, q⟩
          simp only [if_pos (show d ≤ t by omega), spec_l01Once.f, e1, Option.bind_some, if_pos c, hwk, ck, Bool.false_eq_true, if_false]
          refine Ev.step (fun k => by rw [spec_l01DrawRight.j1]) ?_
          simp only [Bool.false_eq_true, if_false, hwk, ck, Option.bind_some, if_pos (show (al.length : Int) < 20 by omega), if_pos (show al.length < 17592186044416 by omega), hw1]
          exact hev
        · obtain ⟨ns', al', i', h', hev, q⟩ := ih (d + 1) ns al i1 g1 (by omega) (by omega) (by omega) hn.next ha.next p1
          refine ⟨ns', al', i', h', Ev.step (fun k => by rw [spec_l01DrawRight.l0]) ?_, q⟩
          simp only [if_pos (show d ≤ t by omega), spec_l01Once.f, e1, Option.bind_some, if_pos c, hwk, ck, Bool.false_eq_true, if_false]
          refine Ev.step (fun k => by rw [spec_l01DrawRight.j1]) ?_
          simp only [Bool.false_eq_true, if_false, hwk, ck, Option.bind_some, if_neg (show ¬ (al.length : Int) < 20 by omega), hw1]
          exact hev
    · obtain ⟨ns', al', i', h', hev, q⟩ := ih (d + 1) ns al i1 g1 (by omega) (by omega) (by omega) hn.next ha.next p1
      refine ⟨ns', al', i', h', Ev.step (fun k => by rw [spec_l01DrawRight.l0]) ?_, q⟩
      simp only [if_pos (show d ≤ t by omega), spec_l01Once.f, e1, Option.bind_some, if_neg c, hw1]
      exact hev
/-- A drawn right pattern. -/
theorem draw_right_pat (l : List Int) (hl : l.length ≤ 2000000) (i0 h0 : Int) (hi : Pl l i0) : ∃ w f t ns al i' h', Ev (fun k => spec_l01DrawRight.f k l i0 h0) (w, f, t, ns, al, i', h') ∧ patB w f t ns al = true ∧ (0 ≤ f ∧ f ≤ 59) ∧ t ≤ 138 ∧ Pl l i' := by
  obtain ⟨a, i1, g1, e1, b1, p1⟩ := below_pos l hl i0 h0 hi 60 (by omega) (by omega)
  obtain ⟨b, i2, g2, e2, b2, p2⟩ := below_pos l hl i1 g1 p1 128 (by omega) (by omega)
  obtain ⟨c, i3, g3, e3, b3, p3⟩ := below_pos l hl i2 g2 p2 80 (by omega) (by omega)
  obtain ⟨ns, al, i', h', hev, q1, q2, q3⟩ := draw_pat_loop l hl b a (a + c) (by omega) (by omega) _ a [] [] i3 g3 rfl (by omega) (by omega) ⟨List.Pairwise.nil, fun x hx => (by cases hx), by simp⟩ ⟨List.Pairwise.nil, fun x hx => (by cases hx), by simp⟩ p3
  refine ⟨b, a, a + c, ns, al, i', h', ?_, ?_, by omega, by omega, q3⟩
  · unfold spec_l01DrawRight.f
    simp only [e1, e2, e3, Option.bind_some, w64 (x := a + c) (by omega) (by omega)]
    exact hev
  · unfold patB
    rw [daysB_of q1.1 (fun x hx => by obtain ⟨h1, h2⟩ := q1.2.1 x hx; exact ⟨by omega, h2⟩) ns 0 rfl, daysB_of q2.1 (fun x hx => by obtain ⟨h1, h2⟩ := q2.2.1 x hx; exact ⟨by omega, h2⟩) al 0 rfl]
    simp only [Bool.and_true, Bool.and_eq_true, decide_eq_true_eq]
    exact ⟨⟨⟨by omega, by omega⟩, q1.2.2⟩, q2.2.2⟩
/-! The days of the pattern of both. -/
theorem skN_mem {W : Int} {o : Int → Bool} {x : Int} : ∀ (m : Nat) (d : Int), x ∈ skN W o m d ↔ (d ≤ x ∧ x < d + (m : Int)) ∧ (wk W x = true ∧ o x = false)
  | 0, d => by simp only [skN, List.not_mem_nil, false_iff]; intro h; omega
  | m + 1, d => by
    rw [skN, List.mem_append, skN_mem m (d + 1)]
    by_cases e : x = d
    · subst e
      have h0 : ¬ (x + 1 ≤ x ∧ x < x + 1 + (m : Int)) := by omega
      have h1 : x ≤ x ∧ x < x + ((m + 1 : Nat) : Int) := by omega
      by_cases c : (wk W x && !o x) = true
      · rw [if_pos c]
        rw [Bool.and_eq_true, Bool.not_eq_true'] at c
        exact ⟨fun _ => ⟨h1, c⟩, fun _ => Or.inl (List.mem_singleton.2 rfl)⟩
      · rw [if_neg c]
        rw [Bool.and_eq_true, Bool.not_eq_true'] at c
        exact ⟨fun h => h.elim (fun h => by cases h) (fun h => absurd h.1 h0), fun h => absurd h.2 c⟩
    · have h0 : x ∉ (if (wk W d && !o d) = true then [d] else []) := by
        split
        · rw [List.mem_singleton]; exact e
        · exact List.not_mem_nil
      have h1 : (d ≤ x ∧ x < d + ((m + 1 : Nat) : Int)) ↔ (d + 1 ≤ x ∧ x < d + 1 + (m : Int)) := by omega
      rw [h1]
      exact ⟨fun h => h.resolve_left h0, Or.inr⟩
theorem exN_mem {W : Int} {o : Int → Bool} {x : Int} : ∀ (m : Nat) (d : Int), x ∈ exN W o m d ↔ (d ≤ x ∧ x < d + (m : Int)) ∧ (wk W x = false ∧ o x = true)
  | 0, d => by simp only [exN, List.not_mem_nil, false_iff]; intro h; omega
  | m + 1, d => by
    rw [exN, List.mem_append, exN_mem m (d + 1)]
    by_cases e : x = d
    · subst e
      have h0 : ¬ (x + 1 ≤ x ∧ x < x + 1 + (m : Int)) := by omega
      have h1 : x ≤ x ∧ x < x + ((m + 1 : Nat) : Int) := by omega
      by_cases c : (!wk W x && o x) = true
      · rw [if_pos c]
        rw [Bool.and_eq_true, Bool.not_eq_true'] at c
        exact ⟨fun _ => ⟨h1, c⟩, fun _ => Or.inl (List.mem_singleton.2 rfl)⟩
      · rw [if_neg c]
        rw [Bool.and_eq_true, Bool.not_eq_true'] at c
        exact ⟨fun h => h.elim (fun h => by cases h) (fun h => absurd h.1 h0), fun h => absurd h.2 c⟩
    · have h0 : x ∉ (if (!wk W d && o d) = true then [d] else []) := by
        split
        · rw [List.mem_singleton]; exact e
        · exact List.not_mem_nil
      have h1 : (d ≤ x ∧ x < d + ((m + 1 : Nat) : Int)) ↔ (d + 1 ≤ x ∧ x < d + 1 + (m : Int)) := by omega
      rw [h1]
      exact ⟨fun h => h.resolve_left h0, Or.inr⟩
theorem skN_pair (W : Int) (o : Int → Bool) : ∀ (m : Nat) (d : Int), (skN W o m d).Pairwise (· < ·)
  | 0, _ => List.Pairwise.nil
  | m + 1, d => by
    rw [skN]
    refine List.pairwise_append.2 ⟨?_, skN_pair W o m (d + 1), fun x hx y hy => ?_⟩
    · split
      · exact List.pairwise_singleton _ _
      · exact List.Pairwise.nil
    · have h2 := ((skN_mem m (d + 1)).1 hy).1
      split at hx
      · rw [List.mem_singleton] at hx; omega
      · cases hx
theorem exN_pair (W : Int) (o : Int → Bool) : ∀ (m : Nat) (d : Int), (exN W o m d).Pairwise (· < ·)
  | 0, _ => List.Pairwise.nil
  | m + 1, d => by
    rw [exN]
    refine List.pairwise_append.2 ⟨?_, exN_pair W o m (d + 1), fun x hx y hy => ?_⟩
    · split
      · exact List.pairwise_singleton _ _
      · exact List.Pairwise.nil
    · have h2 := ((exN_mem m (d + 1)).1 hy).1
      split at hx
      · rw [List.mem_singleton] at hx; omega
      · cases hx
theorem chk_and : (List.range 128).all (fun a => (List.range 128).all (fun b => decide (0 ≤ Go.bits .and .i64 (a : Int) (b : Int) ∧ Go.bits .and .i64 (a : Int) (b : Int) ≤ 127))) = true := by decide +kernel
theorem and_in {a b : Int} (ha : 0 ≤ a ∧ a ≤ 127) (hb : 0 ≤ b ∧ b ≤ 127) : 0 ≤ Go.bits .and .i64 a b ∧ Go.bits .and .i64 a b ≤ 127 := by
  have h := chk_and
  rw [List.all_eq_true] at h
  have h2 := h a.toNat (List.mem_range.2 (by omega))
  rw [List.all_eq_true] at h2
  have h3 := h2 b.toNat (List.mem_range.2 (by omega))
  rw [Int.toNat_of_nonneg ha.1, Int.toNat_of_nonneg hb.1, decide_eq_true_eq] at h3
  exact h3
theorem bothR_law (w f t : Int) (ns al : List Int) (w2 f2 t2 : Int) (ns2 al2 : List Int) : bothR w f t ns al w2 f2 t2 ns2 al2 = (0, 0, 0, [], []) ∨ ∃ W F T X Y, bothR w f t ns al w2 f2 t2 ns2 al2 = (W, F, T, X, Y) ∧ patB w f t ns al = true ∧ patB w2 f2 t2 ns2 al2 = true ∧ patB W F T X Y = true ∧
    ∀ d, F ≤ d → d ≤ T → onB W F T X Y d = bothO w f t ns al w2 f2 t2 ns2 al2 d := by
  unfold bothR
  by_cases c : patB w f t ns al = true ∧ patB w2 f2 t2 ns2 al2 = true
  · simp only [if_pos c]
    by_cases c1 : mx f f2 > mn t t2
    · simp only [if_pos c1]; exact Or.inl trivial
    · simp only [if_neg c1, finB]
      by_cases c2 : (skN (Go.bits .and .i64 w w2) (bothO w f t ns al w2 f2 t2 ns2 al2) (mn t t2 - mx f f2 + 1).toNat (mx f f2)).length > 20
      · simp only [if_pos c2]; exact Or.inl trivial
      · simp only [if_neg c2]
        by_cases c3 : (exN (Go.bits .and .i64 w w2) (bothO w f t ns al w2 f2 t2 ns2 al2) (mn t t2 - mx f f2 + 1).toNat (mx f f2)).length > 20
        · simp only [if_pos c3]; exact Or.inl trivial
        · simp only [if_neg c3]
          obtain ⟨p1, p2, _⟩ := patB_parts c.1
          obtain ⟨q1, q2, _⟩ := patB_parts c.2
          obtain ⟨m1, m2, m3, m4, m5, m6⟩ := mxn f f2 t t2
          have hW := and_in p1 q1
          generalize Go.bits .and .i64 w w2 = W at *
          generalize bothO w f t ns al w2 f2 t2 ns2 al2 = o at *
          generalize mx f f2 = F at *
          generalize mn t t2 = T at *
          have hm : ((T - F + 1).toNat : Int) = T - F + 1 := by omega
          refine Or.inr ⟨W, F, T, _, _, rfl, c.1, c.2, ?_, fun d d1 d2 => ?_⟩
          · unfold patB
            have e1 : daysB W F T true (skN W o (T - F + 1).toNat F) 0 (skN W o (T - F + 1).toNat F) = true := daysB_of (skN_pair W o _ F) (fun x hx => by obtain ⟨h1, h2⟩ := (skN_mem (T - F + 1).toNat F).1 hx; exact ⟨by omega, h2.1⟩) _ 0 rfl
            have e2 : daysB W F T false (exN W o (T - F + 1).toNat F) 0 (exN W o (T - F + 1).toNat F) = true := daysB_of (exN_pair W o _ F) (fun x hx => by obtain ⟨h1, h2⟩ := (exN_mem (T - F + 1).toNat F).1 hx; exact ⟨by omega, h2.1⟩) _ 0 rfl
            rw [e1, e2]
            simp only [Bool.and_true, Bool.and_eq_true, decide_eq_true_eq]
            exact ⟨⟨⟨hW, by omega⟩, by omega⟩, by omega⟩
          · unfold onB
            rw [decide_eq_true (show F ≤ d ∧ d ≤ T from ⟨d1, d2⟩), Bool.true_and]
            by_cases k : wk W d = true
            · rw [if_pos k]
              cases ho : o d with
              | true => rw [decide_eq_false (fun h => by have := ((skN_mem _ F).1 h).2.2; rw [ho] at this; cases this)]; rfl
              | false => rw [decide_eq_true ((skN_mem _ F).2 ⟨by omega, k, ho⟩)]; rfl
            · rw [if_neg k]
              cases ho : o d with
              | true => rw [decide_eq_true ((exN_mem _ F).2 ⟨by omega, by simpa using k, ho⟩)]
              | false => rw [decide_eq_false (fun h => by have := ((exN_mem _ F).1 h).2.2; rw [ho] at this; cases this)]
  · simp only [if_neg c]; exact Or.inl trivial
def runsOnR (w f t : Int) (ns al : List Int) (d : Int) : Bool := patB w f t ns al && onB w f t ns al d
theorem impl_runsOn_ev (w f t : Int) (ns al : List Int) (hn : ns.length ≤ 2000000) (ha : al.length ≤ 2000000) (d : Int) : Ev (fun k => impl_RunsOn.f k w f t ns al d) (runsOnR w f t ns al d) := by
  unfold impl_RunsOn.f runsOnR
  refine Ev.bind (impl_pat_ev w f t ns al hn ha) ?_
  cases hp : patB w f t ns al with
  | false => simpa using ev_some
  | true =>
    obtain ⟨_, h2, _⟩ := patB_parts hp
    simp only [if_true, Bool.true_and]
    exact Ev.bind (impl_on_ev w f t ns al hn ha h2.1 d) ev_some
def runsN (w f t : Int) (ns al : List Int) : Nat → Int → Nat
  | 0, _ => 0
  | m + 1, d => (if onB w f t ns al d = true then 1 else 0) + runsN w f t ns al m (d + 1)
def runsR (w f t : Int) (ns al : List Int) : Int := if patB w f t ns al = true then (runsN w f t ns al (t - f + 1).toNat f : Nat) else 0
theorem impl_runs_loop (w f t : Int) (ns al : List Int) (hp : patB w f t ns al = true) : ∀ (m : Nat) (d c : Int), m = (t - d + 1).toNat → f ≤ d → 0 ≤ c → c ≤ 100000 - m → Ev (fun k => impl_Runs.l0 k c d w f t ns al) (c + (runsN w f t ns al m d : Nat)) := by
  obtain ⟨_, h2, _, _, hn, ha⟩ := patB_parts hp
  intro m
  induction m with
  | zero =>
    intro d c hm hd hc hc2
    refine Ev.step (fun k => by rw [impl_Runs.l0]) ?_
    simp only [if_neg (show ¬ d ≤ t by omega), runsN]
    simpa using ev_some
  | succ m ih =>
    intro d c hm hd hc hc2
    refine Ev.step (fun k => by rw [impl_Runs.l0]) ?_
    simp only [if_pos (show d ≤ t by omega)]
    refine Ev.bind (impl_on_ev w f t ns al (by omega) (by omega) h2.1 d) ?_
    rw [w64 (x := c + 1) (by omega) (by omega), w64 (x := d + 1) (by omega) (by omega)]
    by_cases o : onB w f t ns al d = true
    · simp only [if_pos o, runsN]
      rw [show c + ((1 + runsN w f t ns al m (d + 1) : Nat) : Int) = (c + 1) + (runsN w f t ns al m (d + 1) : Nat) by omega]
      exact ih (d + 1) (c + 1) (by omega) (by omega) (by omega) (by omega)
    · simp only [if_neg o, runsN]
      rw [show c + ((0 + runsN w f t ns al m (d + 1) : Nat) : Int) = c + (runsN w f t ns al m (d + 1) : Nat) by omega]
      exact ih (d + 1) c (by omega) (by omega) (by omega) (by omega)
theorem impl_runs_ev (w f t : Int) (ns al : List Int) (hn : ns.length ≤ 2000000) (ha : al.length ≤ 2000000) : Ev (fun k => impl_Runs.f k w f t ns al) (runsR w f t ns al) := by
  unfold impl_Runs.f runsR
  refine Ev.bind (impl_pat_ev w f t ns al hn ha) ?_
  by_cases hp : patB w f t ns al = true
  · simp only [if_pos hp]
    obtain ⟨_, h2, _⟩ := patB_parts hp
    have := impl_runs_loop w f t ns al hp _ f 0 rfl (by omega) (by omega) (by omega)
    rw [Int.zero_add] at this
    exact this
  · simp only [if_neg hp]; exact ev_some
theorem sameInts_ev (xs : List Int) (hn : xs.length ≤ 2000000) : Ev (fun k => laws_sameInts.f k xs xs) true := by
  unfold laws_sameInts.f
  simp only [if_true]
  refine all_loop xs.length (fun k i => laws_sameInts.l0 k xs xs i) (by omega) (fun k j hj => ?_) (fun k => ?_) xs.length 0 (by omega) (by omega)
  · simp [laws_sameInts.l0, hj]
  · simp [laws_sameInts.l0]
theorem pick_ev (l : List Int) (hl : l.length ≤ 2000000) (i h : Int) (hi : Pl l i) (xs : List Int) (h0 : 0 < xs.length) (h1 : xs.length ≤ 1000) : ∃ v i' h', spec_l01PickInt.f l i h xs = some (v, i', h') ∧ Pl l i' := by
  obtain ⟨r, i1, g1, e1, b1, p1⟩ := below_pos l hl i h hi (xs.length : Int) (by omega) (by omega)
  refine ⟨rd xs r, i1, g1, ?_, p1⟩
  unfold spec_l01PickInt.f
  simp only [e1, Option.bind_some, if_pos b1.1, if_pos b1.2]
theorem any_loop (l : List Int) (hl : l.length ≤ 2000000) (W F T : Int) (m : Nat) : ∀ (j : Int) (xs : List Int) (i h : Int), m = (22 - j).toNat → 0 ≤ j → j ≤ 22 → xs.length + m ≤ 60 → Pl l i →
    ∃ ns i' h', Ev (fun k => spec_l01DrawAny.l0 k j l i h W F T xs) (W, F, T, ns, [], i', h') ∧ ns.length ≤ 60 ∧ Pl l i' := by
  induction m with
  | zero =>
    intro j xs i h hm j0 j1 hx hi
    obtain ⟨r, i1, g1, e1, b1, p1⟩ := below_pos l hl i h hi 2 (by omega) (by omega)
    refine ⟨xs, i1, g1, Ev.step (fun k => by rw [spec_l01DrawAny.l0]) ?_, by omega, p1⟩
    simp only [e1, Option.bind_some, w64 (x := 20 + r) (by omega) (by omega), if_neg (show ¬ j < 20 + r by omega)]
    exact ev_some
  | succ m ih =>
    intro j xs i h hm j0 j1 hx hi
    obtain ⟨r, i1, g1, e1, b1, p1⟩ := below_pos l hl i h hi 2 (by omega) (by omega)
    by_cases c : j < 20 + r
    · obtain ⟨ns, i', h', hev, q1, q2⟩ := ih (j + 1) (xs ++ [wrap64 (j * 3)]) i1 g1 (by omega) (by omega) (by omega) (by simp; omega) p1
      refine ⟨ns, i', h', Ev.step (fun k => by rw [spec_l01DrawAny.l0]) ?_, q1, q2⟩
      simp only [e1, Option.bind_some, w64 (x := 20 + r) (by omega) (by omega), if_pos c, if_pos (show xs.length < 17592186044416 by omega), w64 (x := j + 1) (by omega) (by omega)]
      exact hev
    · refine ⟨xs, i1, g1, Ev.step (fun k => by rw [spec_l01DrawAny.l0]) ?_, by omega, p1⟩
      simp only [e1, Option.bind_some, w64 (x := 20 + r) (by omega) (by omega), if_neg c]
      exact ev_some
/-- Any drawn pattern. -/
theorem draw_any (l : List Int) (hl : l.length ≤ 2000000) (i0 h0 : Int) (hi : Pl l i0) : ∃ w f t ns al i' h', Ev (fun k => spec_l01DrawAny.f k l i0 h0) (w, f, t, ns, al, i', h') ∧ ns.length ≤ 60 ∧ al.length ≤ 60 ∧ Pl l i' := by
  obtain ⟨w, f, t, ns, al, i1, g1, ed, hp, hf, ht, p1⟩ := draw_right_pat l hl i0 h0 hi
  have hlen := patB_parts hp
  have hn : ns.length ≤ 20 := hlen.2.2.2.2.1
  have ha : al.length ≤ 20 := hlen.2.2.2.2.2
  clear hlen hp
  obtain ⟨r, i2, g2, e2, b2, p2⟩ := below_pos l hl i1 g1 p1 22 (by omega) (by omega)
  by_cases c0 : r = 0
  · obtain ⟨v, i3, g3, e3, p3⟩ := pick_ev l hl i2 g2 p2 [(-1), 0, 127, 128] (by simp) (by simp)
    refine ⟨v, f, t, ns, al, i3, g3, ?_, by omega, by omega, p3⟩
    unfold spec_l01DrawAny.f
    refine Ev.bind ed ?_
    simp only [e2, Option.bind_some, if_pos c0, e3]
    exact ev_some
  by_cases c1 : r = 1
  · obtain ⟨v, i3, g3, e3, p3⟩ := pick_ev l hl i2 g2 p2 [wrap64 (f - 1), f, 3650, 3651] (by simp) (by simp)
    refine ⟨w, f, v, ns, al, i3, g3, ?_, by omega, by omega, p3⟩
    unfold spec_l01DrawAny.f
    refine Ev.bind ed ?_
    simp only [e2, Option.bind_some, if_neg c0, if_pos c1, e3]
    exact ev_some
  by_cases c2 : r = 2
  · obtain ⟨v, i3, g3, e3, _, p3⟩ := below_pos l hl i2 g2 p2 9 (by omega) (by omega)
    refine ⟨w, f, t, ns ++ [wrap64 (f + v)], al, i3, g3, ?_, by simp; omega, by omega, p3⟩
    unfold spec_l01DrawAny.f
    refine Ev.bind ed ?_
    simp only [e2, Option.bind_some, if_neg c0, if_neg c1, if_pos c2, e3, if_pos (show ns.length < 17592186044416 by omega)]
    exact ev_some
  by_cases c3 : r = 3
  · obtain ⟨v, i3, g3, e3, _, p3⟩ := below_pos l hl i2 g2 p2 9 (by omega) (by omega)
    refine ⟨w, f, t, ns, al ++ [wrap64 (f + v)], i3, g3, ?_, by omega, by simp; omega, p3⟩
    unfold spec_l01DrawAny.f
    refine Ev.bind ed ?_
    simp only [e2, Option.bind_some, if_neg c0, if_neg c1, if_neg c2, if_pos c3, e3, if_pos (show al.length < 17592186044416 by omega)]
    exact ev_some
  by_cases c4 : r = 4
  · obtain ⟨v, i3, g3, e3, _, p3⟩ := below_pos l hl i2 g2 p2 3 (by omega) (by omega)
    refine ⟨w, wrap64 ((-1) - v), t, ns, al, i3, g3, ?_, by omega, by omega, p3⟩
    unfold spec_l01DrawAny.f
    refine Ev.bind ed ?_
    simp only [e2, Option.bind_some, if_neg c0, if_neg c1, if_neg c2, if_neg c3, if_pos c4, e3]
    exact ev_some
  by_cases c5 : r = 5
  · obtain ⟨ns', i3, g3, e3, q1, p3⟩ := any_loop l hl 127 0 3650 22 0 [] i2 g2 (by decide) (by omega) (by omega) (by simp) p2
    refine ⟨127, 0, 3650, ns', [], i3, g3, ?_, q1, by simp, p3⟩
    unfold spec_l01DrawAny.f
    refine Ev.bind ed ?_
    simp only [e2, Option.bind_some, if_neg c0, if_neg c1, if_neg c2, if_neg c3, if_neg c4, if_pos c5]
    exact e3
  · refine ⟨w, f, t, ns, al, i2, g2, ?_, by omega, by omega, p2⟩
    unfold spec_l01DrawAny.f
    refine Ev.bind ed ?_
    simp only [e2, Option.bind_some, if_neg c0, if_neg c1, if_neg c2, if_neg c3, if_neg c4, if_neg c5]
    exact ev_some
theorem draw_both (l : List Int) (hl : l.length ≤ 2000000) : ∃ w f t ns al w2 f2 t2 ns2 al2, Ev (fun k => spec_DrawBoth.f k l) (w, f, t, ns, al, w2, f2, t2, ns2, al2) ∧ ns.length ≤ 60 ∧ al.length ≤ 60 ∧ ns2.length ≤ 60 ∧ al2.length ≤ 60 := by
  obtain ⟨h0, e0⟩ := new_ev l hl
  obtain ⟨w, f, t, ns, al, i1, g1, ed1, b1, b2, p1⟩ := draw_any l hl 0 h0 (pl0 l)
  obtain ⟨w2, f2, t2, ns2, al2, i2, g2, ed2, b3, b4, p2⟩ := draw_any l hl i1 g1 p1
  obtain ⟨r, i3, g3, e3, _, p3⟩ := below_pos l hl i2 g2 p2 3 (by omega) (by omega)
  by_cases c : (r == 0) = true
  · refine ⟨w, f, t, ns, al, w, f2, t2, [], [], ?_, b1, b2, by simp, by simp⟩
    unfold spec_DrawBoth.f
    refine Ev.bind e0 (Ev.bind ed1 (Ev.bind ed2 ?_))
    simp only [spec_l01Once.f, e3, Option.bind_some, if_pos c]
    exact ev_some
  · refine ⟨w, f, t, ns, al, w2, f2, t2, ns2, al2, ?_, b1, b2, b3, b4⟩
    unfold spec_DrawBoth.f
    refine Ev.bind e0 (Ev.bind ed1 (Ev.bind ed2 ?_))
    simp only [spec_l01Once.f, e3, Option.bind_some, if_neg c]
    exact ev_some
theorem samePat_ev (w f t : Int) (ns al : List Int) (hn : ns.length ≤ 2000000) (ha : al.length ≤ 2000000) : Ev (fun k => laws_samePattern.f k w f t ns al w f t ns al) true := by
  unfold laws_samePattern.f
  simp only [if_true]
  refine Ev.bind (sameInts_ev ns hn) ?_
  simp only [if_true]
  refine Ev.bind (sameInts_ev al ha) ?_
  exact ev_some
theorem runsN_le (w f t : Int) (ns al : List Int) : ∀ (m : Nat) (d : Int), runsN w f t ns al m d ≤ m
  | 0, _ => Nat.le_refl _
  | m + 1, d => by
    have := runsN_le w f t ns al m (d + 1)
    unfold runsN
    split <;> omega
section
variable {w f t : Int} {ns al : List Int} {w2 f2 t2 : Int} {ns2 al2 : List Int} {W F T : Int} {X Y : List Int} (hp : patB w f t ns al = true) (hq : patB w2 f2 t2 ns2 al2 = true) (hr : patB W F T X Y = true)
  (ho : ∀ d, F ≤ d → d ≤ T → onB W F T X Y d = bothO w f t ns al w2 f2 t2 ns2 al2 d)
include hp hq hr ho
theorem both_tail (m : Nat) : ∀ (d : Int) (c : Nat), m = (T - d + 1).toNat → F ≤ d → d ≤ T + 1 → c + runsN W F T X Y m d = runsN W F T X Y (T - F + 1).toNat F →
    Ev (fun k => laws_FnBoth.l0 k (c : Int) d w f t ns al w2 f2 t2 ns2 al2 W F T X Y) true := by
  obtain ⟨_, _, _, _, pn, pa⟩ := patB_parts hp
  obtain ⟨_, _, _, _, qn, qa⟩ := patB_parts hq
  obtain ⟨_, r2, _, _, rn, ra⟩ := patB_parts hr
  have htot := runsN_le W F T X Y (T - F + 1).toNat F
  induction m with
  | zero =>
    intro d c hm h1 h2 hc
    have hx := impl_runs_ev W F T X Y (by omega) (by omega)
    unfold runsR at hx
    rw [if_pos hr, ← hc] at hx
    simp only [runsN, Nat.add_zero] at hx
    have o1 := impl_runsOn_ev W F T X Y (by omega) (by omega) (F - 1)
    have o2 := impl_runsOn_ev W F T X Y (by omega) (by omega) (T + 1)
    unfold runsOnR onB at o1 o2
    rw [decide_eq_false (show ¬ (F ≤ F - 1 ∧ F - 1 ≤ T) by omega), Bool.false_and, Bool.and_false] at o1
    rw [decide_eq_false (show ¬ (F ≤ T + 1 ∧ T + 1 ≤ T) by omega), Bool.false_and, Bool.and_false] at o2
    refine Ev.step (fun k => by rw [laws_FnBoth.l0]) ?_
    simp only [if_neg (show ¬ d ≤ T by omega), w64 (x := F - 1) (by omega) (by omega), w64 (x := T + 1) (by omega) (by omega)]
    refine Ev.bind hx ?_
    simp only [if_true]
    refine Ev.bind o1 ?_
    simp only [Bool.false_eq_true, if_false]
    exact Ev.bind o2 ev_some
  | succ m ih =>
    intro d c hm h1 h2 hc
    have o1 := impl_runsOn_ev w f t ns al (by omega) (by omega) d
    have o2 := impl_runsOn_ev w2 f2 t2 ns2 al2 (by omega) (by omega) d
    have o3 := impl_runsOn_ev W F T X Y (by omega) (by omega) d
    unfold runsOnR at o1 o2 o3
    rw [hp, Bool.true_and] at o1
    rw [hq, Bool.true_and] at o2
    rw [hr, Bool.true_and, ho d h1 (by omega)] at o3
    have hcc : (c : Int) + 1 = ((c + 1 : Nat) : Int) := by omega
    have hj : Ev (fun k => laws_FnBoth.j2 k (c : Int) d (bothO w f t ns al w2 f2 t2 ns2 al2 d) w f t ns al w2 f2 t2 ns2 al2 W F T X Y) true := by
      refine Ev.step (fun k => by rw [laws_FnBoth.j2]) ?_
      refine Ev.bind o3 ?_
      simp only [bne_self_eq_false, Bool.false_eq_true, if_false, w64 (x := d + 1) (by omega) (by omega), w64 (x := (c : Int) + 1) (by omega) (by omega)]
      rw [runsN, ho d h1 (by omega)] at hc
      by_cases b : bothO w f t ns al w2 f2 t2 ns2 al2 d = true
      · simp only [if_pos b]
        rw [if_pos b] at hc
        rw [hcc]
        exact ih (d + 1) (c + 1) (by omega) (by omega) (by omega) (by omega)
      · simp only [if_neg b]
        rw [if_neg b] at hc
        exact ih (d + 1) c (by omega) (by omega) (by omega) (by omega)
    refine Ev.step (fun k => by rw [laws_FnBoth.l0]) ?_
    simp only [if_pos (show d ≤ T by omega)]
    refine Ev.bind o1 ?_
    cases e : onB w f t ns al d with
    | true =>
      simp only [if_true]
      refine Ev.bind o2 ?_
      have e2 : bothO w f t ns al w2 f2 t2 ns2 al2 d = onB w2 f2 t2 ns2 al2 d := by unfold bothO; rw [e, Bool.true_and]
      rw [← e2]
      exact hj
    | false =>
      simp only [Bool.false_eq_true, if_false]
      have e2 : bothO w f t ns al w2 f2 t2 ns2 al2 d = false := by unfold bothO; rw [e, Bool.false_and]
      rw [← e2]
      exact hj
end
theorem both_none (w f t : Int) (ns al : List Int) (w2 f2 t2 : Int) (ns2 al2 : List Int) (W T : Int) (X Y : List Int) (hx : X.length ≤ 2000000) (hy : Y.length ≤ 2000000) : Ev (fun k => laws_FnBoth.j0 k true w f t ns al w2 f2 t2 ns2 al2 W 0 T X Y) true := by
  refine Ev.step (fun k => by rw [laws_FnBoth.j0]) ?_
  simp only [if_true]
  refine Ev.bind (impl_runs_ev W 0 T X Y hx hy) ?_
  by_cases c : runsR W 0 T X Y = 0
  · simp only [if_pos c]; exact ev_some
  · simp only [if_neg c, beq_self_eq_true]; exact ev_some
theorem FnBoth : laws_FnBoth.PureR := by
  intro l ⟨_, hb⟩
  refine Ev.rounds ?_
  unfold laws_FnBoth.f laws_big.f
  simp only [Option.bind_some, decide_eq_true_eq]
  by_cases h : (l.length : Int) > 1048576
  · simp only [if_pos h]; exact ev_some
  · simp only [if_neg h]
    have hll : l.length ≤ 2000000 := by omega
    obtain ⟨w, f, t, ns, al, w2, f2, t2, ns2, al2, ed, b1, b2, b3, b4⟩ := draw_both l hll
    refine Ev.bind ed (Ev.bind (impl_both_ev w f t ns al w2 f2 t2 ns2 al2 (by omega) (by omega) (by omega) (by omega)) (Ev.bind (spec_both_ev w f t ns al w2 f2 t2 ns2 al2 (by omega) (by omega) (by omega) (by omega)) ?_))
    rcases bothR_law w f t ns al w2 f2 t2 ns2 al2 with hz | ⟨W, F, T, X, Y, hR, hp, hq, hr, ho⟩
    · rw [hz]
      refine Ev.bind (samePat_ev 0 0 0 [] [] (by simp) (by simp)) ?_
      simp only [if_true, beq_self_eq_true]
      exact both_none w f t ns al w2 f2 t2 ns2 al2 0 0 [] [] (by simp) (by simp)
    · rw [hR]
      obtain ⟨_, r2, _, _, rn, ra⟩ := patB_parts hr
      have hgo := both_tail hp hq hr ho _ F 0 rfl (by omega) (by omega) (Nat.zero_add _)
      have hj : Ev (fun k => laws_FnBoth.j0 k false w f t ns al w2 f2 t2 ns2 al2 W F T X Y) true := by
        refine Ev.step (fun k => by rw [laws_FnBoth.j0]) ?_
        simp only [Bool.false_eq_true, if_false]
        exact hgo
      refine Ev.bind (samePat_ev W F T X Y (by omega) (by omega)) ?_
      simp only [if_true]
      by_cases c : T = 0
      · simp only [if_pos c]
        cases e : (W == 0) with
        | true =>
          have hF : F = 0 := by omega
          rw [hF]
          exact both_none w f t ns al w2 f2 t2 ns2 al2 W T X Y (by omega) (by omega)
        | false => exact hj
      · simp only [if_neg c]; exact hj

end Go.Proofs.Ytgjhlkjfdlkndaa.Pure
