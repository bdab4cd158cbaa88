/- The program's Both returns what the reference's returns, for all pairs of patterns. -/
import Derived.Test.YtgjhlkjfdlkndaaRowFnExactBoth
namespace Go.Proofs.Ytgjhlkjfdlkndaa.Pure
open Go.RowKit Go.Proofs.Ytgjhlkjfdlkndaa.PFnExactBoth Go.Proofs.YtgjhlkjfdlkndaaW.PrintWords Go.Proofs.YtgjhlkjfdlkndaaW.PrintLast Go.Proofs.YtgjhlkjfdlkndaaW.PrintMore
set_option linter.unusedVariables false
set_option linter.unusedSimpArgs false
theorem w64 {x : Int} (h0 : -9223372036854775808 ≤ x) (h1 : x ≤ 9223372036854775807) : wrap64 x = x := by unfold wrap64; omega
theorem ev_k {α : Type} {g : Nat → Option α} {r : α} (h : ∀ k, g k = some r) : Ev g r := ⟨0, fun k _ => h k⟩
theorem ev_some {α : Type} {r : α} : Ev (fun _ => some r) r := Ev.now r
theorem wf_i64 {x : Int} (h : (Lit.int .i64 x).wf = true) : -9223372036854775808 ≤ x ∧ x ≤ 9223372036854775807 := by
  simp only [Lit.wf, Bool.and_eq_true, decide_eq_true_eq] at h
  have h1 : IntKind.min .i64 = -9223372036854775808 := by decide
  have h2 : IntKind.max .i64 = 9223372036854775807 := by decide
  omega
theorem wf_u8 {x : Int} (h : (Lit.int .u8 x).wf = true) : 0 ≤ x ∧ x ≤ 255 := by
  simp only [Lit.wf, Bool.and_eq_true, decide_eq_true_eq] at h
  have h1 : IntKind.min .u8 = 0 := by decide
  have h2 : IntKind.max .u8 = 255 := by decide
  omega
/-! Loops over lists, whatever the elements. -/
theorem nat_w {j : Nat} (h : j ≤ 9223372036854775806) : wrap64 ((j : Int) + 1) = ((j + 1 : Nat) : Int) := by rw [w64 (by omega) (by omega)]; omega
theorem set_take {α : Type} {acc ys : List α} {j : Nat} (hl : acc.length = ys.length) (ht : acc.take j = ys.take j) (hj : j < ys.length) {v : α} (hv : ys[j]? = some v) : (acc.set j v).take (j + 1) = ys.take (j + 1) := by
  apply List.ext_getElem?
  intro i
  by_cases hi : i < j + 1
  · rw [List.getElem?_take_of_lt hi, List.getElem?_take_of_lt hi]
    by_cases e : i = j
    · subst e
      rw [List.getElem?_set_self (by omega), hv]
    · rw [List.getElem?_set_ne (by omega)]
      have h1 := congrArg (fun l => l[i]?) ht
      simp only [List.getElem?_take_of_lt (show i < j by omega)] at h1
      exact h1
  · rw [List.getElem?_eq_none (by simp; omega), List.getElem?_eq_none (by simp; omega)]
theorem getD_some {α : Type} {xs : List α} {j : Nat} (h : j < xs.length) (d : α) : xs[j]? = some (xs.getD j d) := by
  rw [List.getD_eq_getElem?_getD, List.getElem?_eq_getElem h]; rfl
/-- A loop that writes g of each element of xs into a row of the same length. -/
theorem copy_loop {α β : Type} (g : β → α) (d : β) (xs : List β) (L : Nat → List α → Int → Option (List α)) (hn : xs.length ≤ 9223372036854775806)
    (hs : ∀ k acc (j : Nat), L (k + 1) acc (j : Int) = if j < xs.length then (if j < acc.length then L k (acc.set j (g (xs.getD j d))) (wrap64 ((j : Int) + 1)) else none) else some acc)
    (m : Nat) : ∀ (j : Nat) (acc : List α), xs.length - j = m → j ≤ xs.length → acc.length = xs.length → acc.take j = (xs.map g).take j → Ev (fun k => L k acc (j : Int)) (xs.map g) := by
  induction m with
  | zero =>
    intro j acc h0 h1 h2 h3
    refine Ev.step (fun k => hs k acc j) ?_
    simp only [if_neg (show ¬ j < xs.length by omega)]
    have e : acc = xs.map g := by
      have h4 : acc.take j = acc := List.take_of_length_le (by omega)
      have h5 : (xs.map g).take j = xs.map g := List.take_of_length_le (by simp; omega)
      rw [← h4, h3, h5]
    rw [e]
    exact ev_some
  | succ m ih =>
    intro j acc h0 h1 h2 h3
    refine Ev.step (fun k => hs k acc j) ?_
    simp only [if_pos (show j < xs.length by omega), if_pos (show j < acc.length by omega)]
    rw [nat_w (by omega)]
    refine ih (j + 1) _ (by omega) (by omega) (by simpa using h2) ?_
    refine set_take (by simpa using h2) h3 (by simp; omega) ?_
    rw [List.getElem?_map, getD_some (show j < xs.length by omega) d]
    rfl
/-- A loop that asks each index, and goes on where the answer is yes. -/
theorem all_loop (n : Nat) (L : Nat → Int → Option Bool) (hn : n ≤ 9223372036854775806) (hs : ∀ k (j : Nat), j < n → L (k + 1) (j : Int) = L k (wrap64 ((j : Int) + 1))) (he : ∀ k, L (k + 1) (n : Int) = some true)
    (m : Nat) : ∀ j : Nat, n - j = m → j ≤ n → Ev (fun k => L k (j : Int)) true := by
  induction m with
  | zero =>
    intro j h0 h1
    obtain rfl : j = n := by omega
    exact Ev.step (fun k => he k) ev_some
  | succ m ih =>
    intro j h0 h1
    refine Ev.step (fun k => hs k j (by omega)) ?_
    rw [nat_w (by omega)]
    exact ih (j + 1) (by omega) (by omega)
/-- The elements one behind the other, each turned by f with a number that goes on by c. -/
def marked {α : Type} (c : Int) (f : Int → α → α) : Int → List α → List α
  | _, [] => []
  | s, x :: xs => f s x :: marked c f (s + c) xs
theorem marked_length {α : Type} (c : Int) (f : Int → α → α) : ∀ (s : Int) (xs : List α), (marked c f s xs).length = xs.length
  | _, [] => rfl
  | s, x :: xs => by simp [marked, marked_length c f (s + c) xs]
theorem marked_at {α : Type} (c : Int) (f : Int → α → α) : ∀ (s : Int) (xs : List α) (j : Nat) (d : α), j < xs.length → (marked c f s xs)[j]? = some (f (s + c * j) (xs.getD j d))
  | _, [], j, d, h => by simp at h
  | s, x :: xs, 0, d, _ => by simp [marked]
  | s, x :: xs, j + 1, d, h => by
    have := marked_at c f (s + c) xs j d (by simpa using h)
    simp only [marked, List.getElem?_cons_succ, List.getD_cons_succ]
    rw [this]
    congr 2
    rw [Int.natCast_succ, Int.mul_add]; omega
/-- A loop that marks a row. -/
theorem mark_loop {α : Type} (c : Nat) (hc : c ≤ 8) (f : Int → α → α) (d : α) (xs : List α) (L : Nat → List α → Int → Int → Option (Int × List α)) (hn : xs.length ≤ 2000000) (s0 : Nat) (hs0 : s0 ≤ 20000000)
    (hs : ∀ k acc (s : Nat) (j : Nat), acc.length = xs.length → s ≤ 40000000 → j < xs.length → L (k + 1) acc (s : Int) (j : Int) = L k (acc.set j (f (s : Int) (acc.getD j d))) ((s + c : Nat) : Int) (wrap64 ((j : Int) + 1)))
    (he : ∀ k acc (s : Int), acc.length = xs.length → L (k + 1) acc s (xs.length : Int) = some (s, acc))
    (m : Nat) : ∀ (j : Nat) (acc : List α), xs.length - j = m → j ≤ xs.length → acc.length = xs.length → acc.take j = (marked c f s0 xs).take j → acc.drop j = xs.drop j → Ev (fun k => L k acc ((s0 + c * j : Nat) : Int) (j : Int)) (((s0 + c * xs.length : Nat) : Int), marked c f s0 xs) := by
  induction m with
  | zero =>
    intro j acc h0 h1 h2 h3 _
    obtain rfl : j = xs.length := by omega
    refine Ev.step (fun k => he k acc _ h2) ?_
    have e : acc = marked c f s0 xs := by
      have h4 : acc.take xs.length = acc := List.take_of_length_le (by omega)
      have h5 : (marked c f s0 xs).take xs.length = marked c f s0 xs := List.take_of_length_le (by rw [marked_length]; omega)
      rw [← h4, h3, h5]
    rw [e]
    exact ev_some
  | succ m ih =>
    intro j acc h0 h1 h2 h3 h4
    have hb : c * j ≤ 8 * 2000000 := Nat.mul_le_mul hc (by omega)
    refine Ev.step (fun k => hs k acc _ j h2 (by omega) (by omega)) ?_
    rw [nat_w (by omega), show s0 + c * j + c = s0 + c * (j + 1) by rw [Nat.mul_add]; omega]
    have hg : acc.getD j d = xs.getD j d := by
      have h5 := congrArg (fun l => l[0]?) h4
      simp only [List.getElem?_drop, Nat.add_zero] at h5
      rw [List.getD_eq_getElem?_getD, List.getD_eq_getElem?_getD, h5]
    refine ih (j + 1) _ (by omega) (by omega) (by simpa using h2) ?_ ?_
    · refine set_take (by rw [marked_length]; exact h2) h3 (by rw [marked_length]; omega) ?_
      rw [marked_at c f s0 xs j d (by omega), hg]
      simp
    · rw [List.drop_set_of_lt (by omega), ← List.drop_drop, h4, List.drop_drop]
/-- A loop that looks whether a row is marked so. -/
theorem held_loop (c : Nat) (hc : c ≤ 8) (n : Nat) (L : Nat → Int → Int → Option Int) (hn : n ≤ 2000000) (s0 : Nat) (hs0 : s0 ≤ 20000000)
    (hs : ∀ k (j : Nat), j < n → L (k + 1) ((s0 + c * j : Nat) : Int) (j : Int) = L k ((s0 + c * j + c : Nat) : Int) (wrap64 ((j : Int) + 1)))
    (he : ∀ k (s : Int), L (k + 1) s (n : Int) = some s)
    (m : Nat) : ∀ j : Nat, n - j = m → j ≤ n → Ev (fun k => L k ((s0 + c * j : Nat) : Int) (j : Int)) (((s0 + c * n : Nat) : Int)) := by
  induction m with
  | zero =>
    intro j h0 h1
    obtain rfl : j = n := by omega
    exact Ev.step (fun k => he k _) ev_some
  | succ m ih =>
    intro j h0 h1
    refine Ev.step (fun k => hs k j (by omega)) ?_
    rw [nat_w (by omega), show s0 + c * j + c = s0 + c * (j + 1) by rw [Nat.mul_add]; omega]
    exact ih (j + 1) (by omega) (by omega)
theorem drop_cons {α : Type} {xs : List α} {j : Nat} {t : α} {rest : List α} (h : xs.drop j = t :: rest) : j < xs.length ∧ (∀ d, xs.getD j d = t) ∧ xs.drop (j + 1) = rest := by
  have hj : j < xs.length := by
    rcases Nat.lt_or_ge j xs.length with h1 | h1
    · exact h1
    · rw [List.drop_of_length_le h1] at h; cases h
  rw [List.drop_eq_getElem_cons hj] at h
  injection h with h1 h2
  exact ⟨hj, fun d => by rw [List.getD_eq_getElem?_getD, List.getElem?_eq_getElem hj, ← h1]; rfl, h2⟩
theorem drop_nil {α : Type} {xs : List α} {j : Nat} (h : xs.drop j = []) : xs.length ≤ j := by simpa using h
theorem rdI_at (xs : List Int) (j : Nat) : rd xs (j : Int) = xs.getD j 0 := by unfold rd; rw [Int.toNat_natCast]
theorem rdB_at (xs : List Bool) (j : Nat) : rdOf false xs (j : Int) = xs.getD j false := by unfold rdOf; rw [Int.toNat_natCast]
theorem spec_in (x lo hi : Int) : spec_l01In.f x lo hi = some (decide (lo ≤ x ∧ x ≤ hi)) := by
  unfold spec_l01In.f
  by_cases h : lo ≤ x <;> simp [h]
theorem impl_in (x lo hi : Int) : impl_between.f x lo hi = some (decide (lo ≤ x ∧ x ≤ hi)) := by
  unfold impl_between.f
  by_cases h : x ≥ lo
  · have h' : lo ≤ x := h
    simp [h, h']
  · have h' : ¬ lo ≤ x := h
    simp [h, h']
/-! Days and patterns. -/
def wk (w d : Int) : Bool := Go.bits .and .i64 (shr .i64 w (Int.tmod d 7)) 1 == 1
def prevOk (xs : List Int) (j : Nat) : Bool := j == 0 || decide (xs.getD (j - 1) 0 < xs.getD j 0)
def dayB (w f t : Int) (b : Bool) (xs : List Int) (j : Nat) (d : Int) : Bool := decide (f ≤ d ∧ d ≤ t) && prevOk xs j && (wk w d == b)
def daysB (w f t : Int) (b : Bool) (xs : List Int) : Nat → List Int → Bool
  | _, [] => true
  | j, d :: ds => dayB w f t b xs j d && daysB w f t b xs (j + 1) ds
def patB (w f t : Int) (ns al : List Int) : Bool :=
  decide (0 ≤ w ∧ w ≤ 127) && decide (0 ≤ f ∧ f ≤ t ∧ t ≤ 3650) && (decide (ns.length ≤ 20) && daysB w f t true ns 0 ns) && (decide (al.length ≤ 20) && daysB w f t false al 0 al)
def onB (w f t : Int) (ns al : List Int) (d : Int) : Bool := decide (f ≤ d ∧ d ≤ t) && (if wk w d = true then !decide (d ∈ ns) else decide (d ∈ al))
theorem daysB_all {w f t : Int} {b : Bool} {xs : List Int} : ∀ (l : List Int) (j : Nat), daysB w f t b xs j l = true → ∀ d ∈ l, (f ≤ d ∧ d ≤ t) ∧ wk w d = b
  | [], _, _, d, h => by cases h
  | x :: l, j, h, d, hd => by
    simp only [daysB, dayB, Bool.and_eq_true, decide_eq_true_eq, beq_iff_eq] at h
    rcases List.mem_cons.mp hd with rfl | h2
    · exact ⟨h.1.1.1, h.1.2⟩
    · exact daysB_all l (j + 1) h.2 d h2
/-- One weekday moved by r days. -/
def stI (w r : Int) (a : Int) (k : Nat) : Int := if Go.bits .and .i64 (shr .i64 w (k : Int)) 1 = 1 then Go.bits .or .i64 a (shl .i64 1 (((k : Int) + r) % 7)) else a
def stS (w r : Int) (a : Int) (k : Nat) : Int := if wk w (k : Int) = true then wrap64 (a + shl .i64 1 (((k : Int) + r) % 7)) else a
def weekI (w r : Int) : Int := (List.range 7).foldl (stI w r) 0
def weekS (w r : Int) : Int := (List.range 7).foldl (stS w r) 0
theorem chk_week : (List.range 128).all (fun w => (List.range 7).all (fun r => decide (weekI (w : Int) (r : Int) = weekS (w : Int) (r : Int)) && (decide (0 ≤ weekI (w : Int) (r : Int) ∧ weekI (w : Int) (r : Int) ≤ 127) && (List.range 7).all (fun d => wk (weekI (w : Int) (r : Int)) (((d : Int) + (r : Int)) % 7) == wk (w : Int) (d : Int))))) = true := by decide +kernel
theorem week_all {w r : Int} (h0 : 0 ≤ w) (h1 : w ≤ 127) (r0 : 0 ≤ r) (r1 : r < 7) : weekI w r = weekS w r ∧ (0 ≤ weekI w r ∧ weekI w r ≤ 127) ∧ ∀ d : Int, 0 ≤ d → d < 7 → wk (weekI w r) ((d + r) % 7) = wk w d := by
  have h := chk_week
  rw [List.all_eq_true] at h
  have h2 := h w.toNat (List.mem_range.2 (by omega))
  rw [List.all_eq_true] at h2
  have h3 := h2 r.toNat (List.mem_range.2 (by omega))
  rw [Int.toNat_of_nonneg h0, Int.toNat_of_nonneg r0] at h3
  simp only [Bool.and_eq_true, decide_eq_true_eq, List.all_eq_true, beq_iff_eq] at h3
  refine ⟨h3.1, h3.2.1, fun d d0 d1 => ?_⟩
  have h4 := h3.2.2 d.toNat (List.mem_range.2 (by omega))
  rw [Int.toNat_of_nonneg d0] at h4
  exact h4
def moved (n : Int) (l : List Int) : List Int := l.map (· + n)
abbrev Pat := Int × Int × Int × List Int × List Int
def latOk (w f t : Int) (ns al : List Int) (n : Int) : Prop := patB w f t ns al = true ∧ (-3650 ≤ n ∧ n ≤ 3650) ∧ 0 ≤ f + n ∧ t + n ≤ 3650
instance (w f t : Int) (ns al : List Int) (n : Int) : Decidable (latOk w f t ns al n) := by unfold latOk; infer_instance
def latR (w f t : Int) (ns al : List Int) (n : Int) : Pat := if latOk w f t ns al n then (weekI w (n % 7), f + n, t + n, moved n ns, moved n al) else (0, 0, 0, [], [])
theorem patB_len {w f t : Int} {ns al : List Int} (h : patB w f t ns al = true) : (0 ≤ w ∧ w ≤ 127) ∧ (0 ≤ f ∧ f ≤ t ∧ t ≤ 3650) ∧ (∀ d ∈ ns, f ≤ d ∧ d ≤ t) ∧ (∀ d ∈ al, f ≤ d ∧ d ≤ t) ∧ ns.length ≤ 20 ∧ al.length ≤ 20 := by
  simp only [patB, Bool.and_eq_true, decide_eq_true_eq] at h
  exact ⟨h.1.1.1, h.1.1.2, fun d hd => (daysB_all ns 0 h.1.2.2 d hd).1, fun d hd => (daysB_all al 0 h.2.2 d hd).1, h.1.2.1, h.2.1⟩
theorem latR_len (w f t : Int) (ns al : List Int) (n : Int) : (latR w f t ns al n).2.2.2.1.length ≤ 20 ∧ (latR w f t ns al n).2.2.2.2.length ≤ 20 := by
  unfold latR
  split
  · rename_i h
    obtain ⟨_, _, _, _, a, b⟩ := patB_len h.1
    simp only [moved, List.length_map]; exact ⟨a, b⟩
  · exact ⟨Nat.zero_le _, Nat.zero_le _⟩
theorem moved_step (n : Int) (l : List Int) (j : Nat) (h : j < l.length) : moved n (l.take (j + 1)) = moved n (l.take j) ++ [l.getD j 0 + n] := by
  unfold moved
  rw [List.take_add_one, List.getElem?_eq_getElem h, List.map_append, List.getD_eq_getElem?_getD, List.getElem?_eq_getElem h]; rfl
theorem fold_next (g : Int → Nat → Int) (j : Nat) : (List.range (j + 1)).foldl g 0 = g ((List.range j).foldl g 0) j := by
  rw [List.range_succ, List.foldl_append]; rfl
theorem spec_week_ev (w d : Int) (h0 : 0 ≤ d) : spec_l01Week.f w d = some (wk w d) := by
  have h7 : Int.tmod d 7 = d % 7 := Int.tmod_eq_emod_of_nonneg h0
  have hm : spec_l01Mod.f d 7 = some (Int.tmod d 7) := by
    unfold spec_l01Mod.f
    rw [if_neg (by decide), if_neg (by rw [h7]; omega)]
  have hw : IntKind.u64.wrap (Int.tmod d 7) = Int.tmod d 7 := by
    rw [h7]
    have : IntKind.u64.wrap (d % 7) = (d % 7) % 18446744073709551616 := rfl
    rw [this]; omega
  unfold spec_l01Week.f wk
  rw [hm]
  simp only [Option.bind_some, hw]
  rw [if_pos (by rw [h7]; omega)]
theorem spec_days_loop (w f t : Int) (h0 : 0 ≤ f) (b : Bool) (xs ns al : List Int) (hn : xs.length ≤ 2000000) : ∀ (rest : List Int) (j : Nat), xs.drop j = rest → j ≤ xs.length →
    Ev (fun k => spec_l01Days.l0 k xs b (j : Int) w f t ns al) (daysB w f t b xs j rest && decide (xs.length ≤ 20)) := by
  intro rest
  induction rest with
  | nil =>
    intro j h hl
    have := drop_nil h
    refine Ev.step (fun k => by rw [spec_l01Days.l0]) ?_
    simp only [if_neg (show ¬ (j : Int) < (xs.length : Int) by omega), daysB, Bool.true_and]
    have e : decide ((xs.length : Int) ≤ 20) = decide (xs.length ≤ 20) := decide_eq_decide.mpr (by omega)
    rw [e]; exact ev_some
  | cons d rest ih =>
    intro j h hl
    obtain ⟨h1, h2, h3⟩ := drop_cons h
    refine Ev.step (fun k => by rw [spec_l01Days.l0]) ?_
    simp only [if_pos (show (j : Int) < (xs.length : Int) by omega), if_pos (show 0 ≤ (j : Int) by omega), rdI_at, h2, spec_in, Option.bind_some, decide_eq_true_eq]
    by_cases c1 : f ≤ d ∧ d ≤ t
    · have hd : 0 ≤ d := by omega
      simp only [if_pos c1, spec_week_ev w d hd, Option.bind_some, nat_w (show j ≤ 9223372036854775806 by omega)]
      have hi := ih (j + 1) h3 (by omega)
      by_cases c0 : j = 0
      · subst c0
        simp only [if_neg (show ¬ ((0 : Nat) : Int) > 0 by omega)]
        by_cases c2 : wk w d = b
        · subst c2
          simpa [daysB, dayB, c1, prevOk] using hi
        · have c3 : (wk w d != b) = true := by simpa using c2
          simp only [c3, if_true]
          have e : (wk w d == b) = false := by simpa using c2
          simp only [daysB, dayB, e, Bool.and_false, Bool.false_and]
          exact ev_some
      · simp only [if_pos (show (j : Int) > 0 by omega), show (j : Int) - 1 = ((j - 1 : Nat) : Int) by omega, w64 (x := ((j - 1 : Nat) : Int)) (by omega) (by omega), if_pos (show 0 ≤ ((j - 1 : Nat) : Int) by omega), if_pos (show ((j - 1 : Nat) : Int) < (xs.length : Int) by omega), rdI_at]
        by_cases c4 : xs.getD (j - 1) 0 ≥ d
        · simp only [if_pos c4]
          have e : prevOk xs j = false := by
            unfold prevOk; rw [h2]
            simp only [Bool.or_eq_false_iff, beq_eq_false_iff_ne, decide_eq_false_iff_not]
            exact ⟨c0, by omega⟩
          simp only [daysB, dayB, e, Bool.and_false, Bool.false_and]
          exact ev_some
        · simp only [if_neg c4]
          have e : prevOk xs j = true := by
            unfold prevOk; rw [h2]
            simp only [Bool.or_eq_true, decide_eq_true_eq]
            exact Or.inr (by omega)
          by_cases c2 : wk w d = b
          · subst c2
            simpa [daysB, dayB, c1, e] using hi
          · have c3 : (wk w d != b) = true := by simpa using c2
            simp only [c3, if_true]
            have e : (wk w d == b) = false := by simpa using c2
            simp only [daysB, dayB, e, Bool.and_false, Bool.false_and]
            exact ev_some
    · simp only [if_neg c1, daysB, dayB, decide_eq_false c1, Bool.false_and]
      exact ev_some
theorem spec_days_ev (w f t : Int) (h0 : 0 ≤ f) (b : Bool) (xs ns al : List Int) (hn : xs.length ≤ 2000000) : Ev (fun k => spec_l01Days.f k xs w f t ns al b) (decide (xs.length ≤ 20) && daysB w f t b xs 0 xs) := by
  rw [Bool.and_comm]
  exact spec_days_loop w f t h0 b xs ns al hn xs 0 rfl (by omega)
theorem spec_pat_ev (w f t : Int) (ns al : List Int) (hn : ns.length ≤ 2000000) (ha : al.length ≤ 2000000) : Ev (fun k => spec_PatternOk.f k w f t ns al) (patB w f t ns al) := by
  unfold spec_PatternOk.f patB
  simp only [spec_in, Option.bind_some, decide_eq_true_eq]
  by_cases c1 : 0 ≤ w ∧ w ≤ 127
  · by_cases c2 : 0 ≤ t ∧ t ≤ 3650
    · by_cases c3 : 0 ≤ f ∧ f ≤ t
      · simp only [if_pos c1, if_pos c2, if_pos c3]
        rw [decide_eq_true c1, decide_eq_true (show 0 ≤ f ∧ f ≤ t ∧ t ≤ 3650 by omega)]
        simp only [Bool.true_and]
        refine Ev.bind (spec_days_ev w f t c3.1 true ns ns al hn) ?_
        cases hd : (decide (ns.length ≤ 20) && daysB w f t true ns 0 ns) with
        | false => simpa using ev_some
        | true =>
          simp only [if_true, Bool.true_and]
          exact Ev.bind (spec_days_ev w f t c3.1 false al ns al ha) ev_some
      · simp only [if_pos c1, if_pos c2, if_neg c3]
        rw [decide_eq_false (show ¬ (0 ≤ f ∧ f ≤ t ∧ t ≤ 3650) by omega)]
        simpa using ev_some
    · simp only [if_pos c1, if_neg c2]
      rw [decide_eq_false (show ¬ (0 ≤ f ∧ f ≤ t ∧ t ≤ 3650) by omega)]
      simpa using ev_some
  · simp only [if_neg c1, decide_eq_false c1, Bool.false_and]
    exact ev_some
theorem impl_week_ev (w d : Int) (h0 : 0 ≤ d) : impl_inWeek.f w d = some (wk w d) := by
  have h7 : Int.tmod d 7 = d % 7 := Int.tmod_eq_emod_of_nonneg h0
  unfold impl_inWeek.f wk
  rw [if_pos (by rw [h7]; omega)]
theorem impl_days_loop (w f t : Int) (h0 : 0 ≤ f) (b : Bool) (xs ns al : List Int) (hn : xs.length ≤ 2000000) : ∀ (rest : List Int) (j : Nat), xs.drop j = rest → j ≤ xs.length →
    Ev (fun k => impl_daysOk.l0 k xs b xs (xs.length : Int) (j : Int) w f t ns al) (daysB w f t b xs j rest) := by
  intro rest
  induction rest with
  | nil =>
    intro j h hl
    have := drop_nil h
    refine Ev.step (fun k => by rw [impl_daysOk.l0]) ?_
    simp only [if_neg (show ¬ (j : Int) < (xs.length : Int) by omega), daysB]
    exact ev_some
  | cons d rest ih =>
    intro j h hl
    obtain ⟨h1, h2, h3⟩ := drop_cons h
    refine Ev.step (fun k => by rw [impl_daysOk.l0]) ?_
    simp only [if_pos (show (j : Int) < (xs.length : Int) by omega), if_pos (show 0 ≤ (j : Int) by omega), rdI_at, h2, impl_in, Option.bind_some, decide_eq_true_eq]
    by_cases c1 : f ≤ d ∧ d ≤ t
    · have hd : 0 ≤ d := by omega
      simp only [if_pos c1, impl_week_ev w d hd, Option.bind_some, nat_w (show j ≤ 9223372036854775806 by omega)]
      have hi := ih (j + 1) h3 (by omega)
      by_cases c2 : wk w d = b
      · have c3 : (wk w d != b) = false := by simpa using c2
        have e2 : (wk w d == b) = true := by simpa using c2
        simp only [c3, Bool.false_eq_true, if_false]
        by_cases c0 : j = 0
        · subst c0
          simp only [if_neg (show ¬ ((0 : Nat) : Int) > 0 by omega)]
          simpa [daysB, dayB, c1, e2, prevOk] using hi
        · simp only [if_pos (show (j : Int) > 0 by omega), show (j : Int) - 1 = ((j - 1 : Nat) : Int) by omega, w64 (x := ((j - 1 : Nat) : Int)) (by omega) (by omega), if_pos (show 0 ≤ ((j - 1 : Nat) : Int) by omega), if_pos (show ((j - 1 : Nat) : Int) < (xs.length : Int) by omega), rdI_at]
          by_cases c4 : xs.getD (j - 1) 0 ≥ d
          · simp only [if_pos c4]
            have e : prevOk xs j = false := by
              unfold prevOk; rw [h2]
              simp only [Bool.or_eq_false_iff, beq_eq_false_iff_ne, decide_eq_false_iff_not]
              exact ⟨c0, by omega⟩
            simp only [daysB, dayB, e, Bool.and_false, Bool.false_and]
            exact ev_some
          · simp only [if_neg c4]
            have e : prevOk xs j = true := by
              unfold prevOk; rw [h2]
              simp only [Bool.or_eq_true, decide_eq_true_eq]
              exact Or.inr (by omega)
            simpa [daysB, dayB, c1, e, e2] using hi
      · have c3 : (wk w d != b) = true := by simpa using c2
        simp only [c3, if_true]
        have e : (wk w d == b) = false := by simpa using c2
        simp only [daysB, dayB, e, Bool.and_false, Bool.false_and]
        exact ev_some
    · simp only [if_neg c1, daysB, dayB, decide_eq_false c1, Bool.false_and]
      exact ev_some
theorem impl_days_ev (w f t : Int) (h0 : 0 ≤ f) (b : Bool) (xs ns al : List Int) (hn : xs.length ≤ 2000000) : Ev (fun k => impl_daysOk.f k w f t ns al xs b) (decide (xs.length ≤ 20) && daysB w f t b xs 0 xs) := by
  unfold impl_daysOk.f
  by_cases c : (xs.length : Int) > 20
  · simp only [if_pos c]
    rw [decide_eq_false (show ¬ xs.length ≤ 20 by omega), Bool.false_and]
    exact ev_some
  · simp only [if_neg c]
    rw [decide_eq_true (show xs.length ≤ 20 by omega), Bool.true_and]
    exact impl_days_loop w f t h0 b xs ns al hn xs 0 rfl (by omega)
theorem impl_pat_ev (w f t : Int) (ns al : List Int) (hn : ns.length ≤ 2000000) (ha : al.length ≤ 2000000) : Ev (fun k => impl_PatternOk.f k w f t ns al) (patB w f t ns al) := by
  unfold impl_PatternOk.f patB
  simp only [impl_in, Option.bind_some, decide_eq_true_eq]
  have hno : ∀ r, r = false → Ev (fun k => impl_PatternOk.j0 k true w f t ns al) r := fun r hr => by
    rw [hr]
    exact Ev.step (fun k => by rw [impl_PatternOk.j0]) (by simpa using ev_some)
  by_cases c1 : 0 ≤ w ∧ w ≤ 127
  · simp only [if_pos c1]
    by_cases c2 : f < 0
    · simp only [if_pos c2]
      exact hno _ (by rw [decide_eq_false (show ¬ (0 ≤ f ∧ f ≤ t ∧ t ≤ 3650) by omega)]; simp)
    · by_cases c3 : f > t
      · simp only [if_neg c2, if_pos c3]
        exact hno _ (by rw [decide_eq_false (show ¬ (0 ≤ f ∧ f ≤ t ∧ t ≤ 3650) by omega)]; simp)
      · by_cases c4 : t > 3650
        · simp only [if_neg c2, if_neg c3, decide_eq_true c4]
          exact hno _ (by rw [decide_eq_false (show ¬ (0 ≤ f ∧ f ≤ t ∧ t ≤ 3650) by omega)]; simp)
        · simp only [if_neg c2, if_neg c3, decide_eq_false c4]
          rw [decide_eq_true c1, decide_eq_true (show 0 ≤ f ∧ f ≤ t ∧ t ≤ 3650 by omega)]
          simp only [Bool.true_and]
          refine Ev.step (fun k => by rw [impl_PatternOk.j0]) ?_
          simp only [Bool.false_eq_true, if_false]
          refine Ev.bind (impl_days_ev w f t (by omega) true ns ns al hn) ?_
          cases hd : (decide (ns.length ≤ 20) && daysB w f t true ns 0 ns) with
          | false => simpa using ev_some
          | true =>
            simp only [if_true, Bool.true_and]
            exact Ev.bind (impl_days_ev w f t (by omega) false al ns al ha) ev_some
  · simp only [if_neg c1, decide_eq_false c1, Bool.false_and]
    exact hno _ rfl
theorem spec_has_loop (xs : List Int) (d : Int) (hn : xs.length ≤ 2000000) : ∀ (rest : List Int) (j : Nat), xs.drop j = rest → j ≤ xs.length → Ev (fun k => spec_l01Has.l0 k xs d (j : Int)) (decide (d ∈ rest)) := by
  intro rest
  induction rest with
  | nil =>
    intro j h hl
    have := drop_nil h
    refine Ev.step (fun k => by rw [spec_l01Has.l0]) ?_
    simp only [if_neg (show ¬ (j : Int) < (xs.length : Int) by omega)]
    simpa using ev_some
  | cons x rest ih =>
    intro j h hl
    obtain ⟨h1, h2, h3⟩ := drop_cons h
    refine Ev.step (fun k => by rw [spec_l01Has.l0]) ?_
    simp only [if_pos (show (j : Int) < (xs.length : Int) by omega), if_pos (show 0 ≤ (j : Int) by omega), rdI_at, h2]
    by_cases c : x = d
    · simp only [if_pos c]
      rw [decide_eq_true (by rw [c]; exact List.mem_cons_self ..)]
      exact ev_some
    · simp only [if_neg c, nat_w (show j ≤ 9223372036854775806 by omega)]
      have e : decide (d ∈ x :: rest) = decide (d ∈ rest) := decide_eq_decide.mpr (by rw [List.mem_cons]; exact ⟨fun h => h.resolve_left (fun e => c e.symm), Or.inr⟩)
      rw [e]
      exact ih (j + 1) h3 (by omega)
theorem spec_has_ev (xs : List Int) (d : Int) (hn : xs.length ≤ 2000000) : Ev (fun k => spec_l01Has.f k xs d) (decide (d ∈ xs)) := spec_has_loop xs d hn xs 0 rfl (by omega)
theorem impl_has_loop (xs : List Int) (d : Int) (hn : xs.length ≤ 2000000) : ∀ (rest : List Int) (j : Nat), xs.drop j = rest → j ≤ xs.length → Ev (fun k => impl_has.l0 k d xs (xs.length : Int) (j : Int)) (decide (d ∈ rest)) := by
  intro rest
  induction rest with
  | nil =>
    intro j h hl
    have := drop_nil h
    refine Ev.step (fun k => by rw [impl_has.l0]) ?_
    simp only [if_neg (show ¬ (j : Int) < (xs.length : Int) by omega)]
    simpa using ev_some
  | cons x rest ih =>
    intro j h hl
    obtain ⟨h1, h2, h3⟩ := drop_cons h
    refine Ev.step (fun k => by rw [impl_has.l0]) ?_
    simp only [if_pos (show (j : Int) < (xs.length : Int) by omega), if_pos (show 0 ≤ (j : Int) by omega), rdI_at, h2]
    by_cases c : x = d
    · simp only [if_pos c]
      rw [decide_eq_true (by rw [c]; exact List.mem_cons_self ..)]
      exact ev_some
    · simp only [if_neg c, nat_w (show j ≤ 9223372036854775806 by omega)]
      have e : decide (d ∈ x :: rest) = decide (d ∈ rest) := decide_eq_decide.mpr (by rw [List.mem_cons]; exact ⟨fun h => h.resolve_left (fun e => c e.symm), Or.inr⟩)
      rw [e]
      exact ih (j + 1) h3 (by omega)
theorem impl_has_ev (xs : List Int) (d : Int) (hn : xs.length ≤ 2000000) : Ev (fun k => impl_has.f k xs d) (decide (d ∈ xs)) := impl_has_loop xs d hn xs 0 rfl (by omega)
theorem patB_parts {w f t : Int} {ns al : List Int} (h : patB w f t ns al = true) : (0 ≤ w ∧ w ≤ 127) ∧ (0 ≤ f ∧ f ≤ t ∧ t ≤ 3650) ∧ (∀ d ∈ ns, (f ≤ d ∧ d ≤ t) ∧ wk w d = true) ∧ (∀ d ∈ al, (f ≤ d ∧ d ≤ t) ∧ wk w d = false) ∧ ns.length ≤ 20 ∧ al.length ≤ 20 := by
  simp only [patB, Bool.and_eq_true, decide_eq_true_eq] at h
  exact ⟨h.1.1.1, h.1.1.2, daysB_all ns 0 h.1.2.2, daysB_all al 0 h.2.2, h.1.2.1, h.2.1⟩
theorem impl_on_ev (w f t : Int) (ns al : List Int) (hn : ns.length ≤ 2000000) (ha : al.length ≤ 2000000) (h0 : 0 ≤ f) (d : Int) : Ev (fun k => impl_runsOn.f k w f t ns al d) (onB w f t ns al d) := by
  unfold impl_runsOn.f onB
  simp only [impl_in, Option.bind_some, decide_eq_true_eq]
  by_cases c : f ≤ d ∧ d ≤ t
  · simp only [if_pos c, decide_eq_true c, Bool.true_and, impl_week_ev w d (show 0 ≤ d by omega), Option.bind_some]
    by_cases c2 : wk w d = true
    · simp only [if_pos c2]
      exact Ev.bind (impl_has_ev ns d hn) ev_some
    · simp only [if_neg c2]
      exact Ev.bind (impl_has_ev al d ha) ev_some
  · simp only [if_neg c, decide_eq_false c, Bool.false_and]
    exact ev_some
/-! The pattern of both of two. -/
def skN (W : Int) (o : Int → Bool) : Nat → Int → List Int
  | 0, _ => []
  | m + 1, d => (if (wk W d && !o d) = true then [d] else []) ++ skN W o m (d + 1)
def exN (W : Int) (o : Int → Bool) : Nat → Int → List Int
  | 0, _ => []
  | m + 1, d => (if (!wk W d && o d) = true then [d] else []) ++ exN W o m (d + 1)
def finB (W F T : Int) (xs ys : List Int) : Pat := if xs.length > 20 then (0, 0, 0, [], []) else (if ys.length > 20 then (0, 0, 0, [], []) else (W, F, T, xs, ys))
def bothO (w f t : Int) (ns al : List Int) (w2 f2 t2 : Int) (ns2 al2 : List Int) (d : Int) : Bool := onB w f t ns al d && onB w2 f2 t2 ns2 al2 d
def bothR (w f t : Int) (ns al : List Int) (w2 f2 t2 : Int) (ns2 al2 : List Int) : Pat :=
  if patB w f t ns al = true ∧ patB w2 f2 t2 ns2 al2 = true then (if mx f f2 > mn t t2 then (0, 0, 0, [], []) else
    finB (Go.bits .and .i64 w w2) (mx f f2) (mn t t2) (skN (Go.bits .and .i64 w w2) (bothO w f t ns al w2 f2 t2 ns2 al2) (mn t t2 - mx f f2 + 1).toNat (mx f f2)) (exN (Go.bits .and .i64 w w2) (bothO w f t ns al w2 f2 t2 ns2 al2) (mn t t2 - mx f f2 + 1).toNat (mx f f2))) else (0, 0, 0, [], [])
theorem finB_len (W F T : Int) (xs ys : List Int) : (finB W F T xs ys).2.2.2.1.length ≤ 20 ∧ (finB W F T xs ys).2.2.2.2.length ≤ 20 := by
  unfold finB
  by_cases c : xs.length > 20
  · simp only [if_pos c]; exact ⟨Nat.zero_le _, Nat.zero_le _⟩
  · simp only [if_neg c]
    by_cases c2 : ys.length > 20
    · simp only [if_pos c2]; exact ⟨Nat.zero_le _, Nat.zero_le _⟩
    · simp only [if_neg c2]; exact ⟨by omega, by omega⟩
theorem bothR_len (w f t : Int) (ns al : List Int) (w2 f2 t2 : Int) (ns2 al2 : List Int) : (bothR w f t ns al w2 f2 t2 ns2 al2).2.2.2.1.length ≤ 20 ∧ (bothR w f t ns al w2 f2 t2 ns2 al2).2.2.2.2.length ≤ 20 := by
  unfold bothR
  split
  · split
    · exact ⟨Nat.zero_le _, Nat.zero_le _⟩
    · exact finB_len _ _ _ _ _
  · exact ⟨Nat.zero_le _, Nat.zero_le _⟩
theorem mxn (f f2 t t2 : Int) : (mx f f2 = f ∨ mx f f2 = f2) ∧ f ≤ mx f f2 ∧ f2 ≤ mx f f2 ∧ (mn t t2 = t ∨ mn t t2 = t2) ∧ mn t t2 ≤ t ∧ mn t t2 ≤ t2 := by
  unfold mx mn
  split <;> split <;> omega
theorem impl_both_j2 {w f t : Int} {ns al : List Int} {w2 f2 t2 : Int} {ns2 al2 : List Int} {W F T : Int} {xs ys : List Int} {d : Int} (hd : 0 ≤ d ∧ d ≤ 100000) (hx : xs.length ≤ 100000) (hy : ys.length ≤ 100000) (b o : Bool) {r : Pat}
    (h : Ev (fun k => impl_Both.l0 k (d + 1) w f t ns al w2 f2 t2 ns2 al2 W F T (xs ++ if (b && !o) = true then [d] else []) (ys ++ if (!b && o) = true then [d] else [])) r) :
    Ev (fun k => impl_Both.j2 k d b o w f t ns al w2 f2 t2 ns2 al2 W F T xs ys) r := by
  have hw : wrap64 (d + 1) = d + 1 := w64 (by omega) (by omega)
  refine Ev.step (fun k => by rw [impl_Both.j2]) ?_
  cases b <;> cases o
  all_goals
    simp only [Bool.false_eq_true, if_false, if_true, Bool.not_true, Bool.not_false, Bool.and_true, Bool.and_false, Bool.true_and, Bool.false_and, List.append_nil] at h ⊢
    refine Ev.step (fun k => by rw [impl_Both.j3]) ?_
    simp only [Bool.false_eq_true, if_false, if_true, if_pos (show xs.length < 17592186044416 by omega), if_pos (show ys.length < 17592186044416 by omega), hw]
    exact h
theorem impl_both_loop {w f t : Int} {ns al : List Int} {w2 f2 t2 : Int} {ns2 al2 : List Int} (hp : patB w f t ns al = true) (hq : patB w2 f2 t2 ns2 al2 = true) (W F T : Int) (hT : T ≤ 3650) : ∀ (m : Nat) (d : Int) (xs ys : List Int), m = (T - d + 1).toNat → 0 ≤ d → xs.length + m ≤ 8000 → ys.length + m ≤ 8000 →
    Ev (fun k => impl_Both.l0 k d w f t ns al w2 f2 t2 ns2 al2 W F T xs ys) (finB W F T (xs ++ skN W (bothO w f t ns al w2 f2 t2 ns2 al2) m d) (ys ++ exN W (bothO w f t ns al w2 f2 t2 ns2 al2) m d)) := by
  obtain ⟨_, hp2, _, _, hpn, hpa⟩ := patB_parts hp
  obtain ⟨_, hq2, _, _, hqn, hqa⟩ := patB_parts hq
  intro m
  induction m with
  | zero =>
    intro d xs ys hm hd hx hy
    refine Ev.step (fun k => by rw [impl_Both.l0]) ?_
    simp only [if_neg (show ¬ d ≤ T by omega), skN, exN, List.append_nil, finB]
    by_cases c : xs.length > 20
    · simp only [if_pos (show (xs.length : Int) > 20 by omega), if_pos c]; exact ev_some
    · simp only [if_neg (show ¬ (xs.length : Int) > 20 by omega), if_neg c]
      by_cases c2 : ys.length > 20
      · simp only [if_pos (show (ys.length : Int) > 20 by omega), if_pos c2]; exact ev_some
      · simp only [if_neg (show ¬ (ys.length : Int) > 20 by omega), if_neg c2]; exact ev_some
  | succ m ih =>
    intro d xs ys hm hd hx hy
    have hi := ih (d + 1) (xs ++ if (wk W d && !bothO w f t ns al w2 f2 t2 ns2 al2 d) = true then [d] else []) (ys ++ if (!wk W d && bothO w f t ns al w2 f2 t2 ns2 al2 d) = true then [d] else []) (by omega) (by omega)
      (by rw [List.length_append]; split <;> simp only [List.length_cons, List.length_nil] <;> omega) (by rw [List.length_append]; split <;> simp only [List.length_cons, List.length_nil] <;> omega)
    rw [List.append_assoc, List.append_assoc] at hi
    have hj := impl_both_j2 (d := d) ⟨hd, by omega⟩ (by omega) (by omega) _ _ hi
    refine Ev.step (fun k => by rw [impl_Both.l0]) ?_
    simp only [if_pos (show d ≤ T by omega), impl_week_ev W d hd, Option.bind_some]
    refine Ev.bind (impl_on_ev w f t ns al (by omega) (by omega) hp2.1 d) ?_
    cases c : onB w f t ns al d with
    | true =>
      simp only [if_true]
      refine Ev.bind (impl_on_ev w2 f2 t2 ns2 al2 (by omega) (by omega) hq2.1 d) ?_
      have e : bothO w f t ns al w2 f2 t2 ns2 al2 d = onB w2 f2 t2 ns2 al2 d := by unfold bothO; rw [c, Bool.true_and]
      rw [← e]
      exact hj
    | false =>
      simp only [Bool.false_eq_true, if_false]
      have e : bothO w f t ns al w2 f2 t2 ns2 al2 d = false := by unfold bothO; rw [c, Bool.false_and]
      rw [← e]
      exact hj
theorem impl_both_ev (w f t : Int) (ns al : List Int) (w2 f2 t2 : Int) (ns2 al2 : List Int) (h1 : ns.length ≤ 2000000) (h2 : al.length ≤ 2000000) (h3 : ns2.length ≤ 2000000) (h4 : al2.length ≤ 2000000) : Ev (fun k => impl_Both.f k w f t ns al w2 f2 t2 ns2 al2) (bothR w f t ns al w2 f2 t2 ns2 al2) := by
  have hno : ∀ r, r = (0, 0, 0, [], []) → Ev (fun k => impl_Both.j0 k true w f t ns al w2 f2 t2 ns2 al2) r := fun r hr => by
    rw [hr]; exact Ev.step (fun k => by rw [impl_Both.j0]) (by simpa using ev_some)
  unfold impl_Both.f bothR
  refine Ev.bind (impl_pat_ev w f t ns al h1 h2) ?_
  by_cases hp : patB w f t ns al = true
  · simp only [hp, if_true]
    refine Ev.bind (impl_pat_ev w2 f2 t2 ns2 al2 h3 h4) ?_
    by_cases hq : patB w2 f2 t2 ns2 al2 = true
    · simp only [hq, Bool.not_true, if_pos (show True ∧ True from ⟨trivial, trivial⟩)]
      obtain ⟨_, p2, _⟩ := patB_parts hp
      obtain ⟨_, q2, _⟩ := patB_parts hq
      obtain ⟨m1, m2, m3, m4, m5, m6⟩ := mxn f f2 t t2
      refine Ev.step (fun k => by rw [impl_Both.j0]) ?_
      simp only [Bool.false_eq_true, if_false]
      by_cases c : mx f f2 > mn t t2
      · simp only [if_pos c]; exact ev_some
      · simp only [if_neg c]
        have := impl_both_loop hp hq (Go.bits .and .i64 w w2) (mx f f2) (mn t t2) (by omega) _ (mx f f2) [] [] rfl (by omega) (by simp; omega) (by simp; omega)
        rw [List.nil_append, List.nil_append] at this
        exact this
    · have hq' : patB w2 f2 t2 ns2 al2 = false := by simpa using hq
      simp only [hq', Bool.not_false]
      exact hno _ (by rw [if_neg (fun h => by cases h.2)])
  · have hp' : patB w f t ns al = false := by simpa using hp
    simp only [hp', Bool.false_eq_true, if_false]
    exact hno _ (by rw [if_neg (fun h => h.1)])
theorem spec_on_ev (w f t : Int) (ns al : List Int) (hp : patB w f t ns al = true) (d : Int) : Ev (fun k => spec_l01On.f k w f t ns al d) (onB w f t ns al d) := by
  obtain ⟨_, h2, _, h4, hn, ha⟩ := patB_parts hp
  unfold spec_l01On.f onB
  simp only [spec_in, Option.bind_some, decide_eq_true_eq]
  by_cases c : f ≤ d ∧ d ≤ t
  · simp only [if_pos c, decide_eq_true c, Bool.true_and, spec_week_ev w d (show 0 ≤ d by omega), Option.bind_some]
    by_cases c2 : wk w d = true
    · simp only [if_pos c2]
      refine Ev.bind (spec_has_ev ns d (by omega)) ?_
      by_cases c3 : d ∈ ns
      · simp only [decide_eq_true c3, if_true, Bool.not_true]
        refine Ev.bind (spec_has_ev al d (by omega)) ?_
        rw [decide_eq_false (fun h => by have := (h4 d h).2; rw [c2] at this; cases this)]
        exact ev_some
      · simp only [decide_eq_false c3, Bool.false_eq_true, if_false, Bool.not_false]
        exact ev_some
    · simp only [if_neg c2]
      exact Ev.bind (spec_has_ev al d (by omega)) ev_some
  · simp only [if_neg c, decide_eq_false c, Bool.false_and]
    exact ev_some
theorem spec_both_j4 {w f t : Int} {ns al : List Int} {w2 f2 t2 : Int} {ns2 al2 : List Int} {W F T : Int} {xs ys : List Int} {d : Int} (hd : 0 ≤ d ∧ d ≤ 100000) (hx : xs.length ≤ 100000) (hy : ys.length ≤ 100000) (o : Bool) {r : Pat}
    (h : Ev (fun k => spec_Both.l0 k (d + 1) w f t ns al w2 f2 t2 ns2 al2 W F T (xs ++ if (wk W d && !o) = true then [d] else []) (ys ++ if (!wk W d && o) = true then [d] else [])) r) :
    Ev (fun k => spec_Both.j4 k d o w f t ns al w2 f2 t2 ns2 al2 W F T xs ys) r := by
  have hw : wrap64 (d + 1) = d + 1 := w64 (by omega) (by omega)
  have hk := spec_week_ev W d hd.1
  refine Ev.step (fun k => by rw [spec_Both.j4]) ?_
  simp only [hk, Option.bind_some]
  cases cb : wk W d <;> cases o
  all_goals
    rw [cb] at h hk
    simp only [Bool.false_eq_true, if_false, if_true, Bool.not_true, Bool.not_false, Bool.and_true, Bool.and_false, Bool.true_and, Bool.false_and, List.append_nil] at h ⊢
    refine Ev.step (fun k => by rw [spec_Both.j5]) ?_
    simp only [Bool.false_eq_true, if_false, if_true, if_pos (show xs.length < 17592186044416 by omega), if_pos (show ys.length < 17592186044416 by omega), hw, hk, Option.bind_some]
    exact h
theorem spec_both_loop {w f t : Int} {ns al : List Int} {w2 f2 t2 : Int} {ns2 al2 : List Int} (hp : patB w f t ns al = true) (hq : patB w2 f2 t2 ns2 al2 = true) (W F T : Int) (hT : T ≤ 3650) : ∀ (m : Nat) (d : Int) (xs ys : List Int), m = (T - d + 1).toNat → 0 ≤ d → xs.length + m ≤ 8000 → ys.length + m ≤ 8000 →
    Ev (fun k => spec_Both.l0 k d w f t ns al w2 f2 t2 ns2 al2 W F T xs ys) (finB W F T (xs ++ skN W (bothO w f t ns al w2 f2 t2 ns2 al2) m d) (ys ++ exN W (bothO w f t ns al w2 f2 t2 ns2 al2) m d)) := by
  intro m
  induction m with
  | zero =>
    intro d xs ys hm hd hx hy
    refine Ev.step (fun k => by rw [spec_Both.l0]) ?_
    simp only [if_neg (show ¬ d ≤ T by omega), skN, exN, List.append_nil, finB]
    by_cases c : xs.length > 20
    · simp only [if_pos (show (xs.length : Int) > 20 by omega), if_pos c]; exact ev_some
    · simp only [if_neg (show ¬ (xs.length : Int) > 20 by omega), if_neg c]
      by_cases c2 : ys.length > 20
      · simp only [if_pos (show (ys.length : Int) > 20 by omega), if_pos c2]; exact ev_some
      · simp only [if_neg (show ¬ (ys.length : Int) > 20 by omega), if_neg c2]; exact ev_some
  | succ m ih =>
    intro d xs ys hm hd hx hy
    have hi := ih (d + 1) (xs ++ if (wk W d && !bothO w f t ns al w2 f2 t2 ns2 al2 d) = true then [d] else []) (ys ++ if (!wk W d && bothO w f t ns al w2 f2 t2 ns2 al2 d) = true then [d] else []) (by omega) (by omega)
      (by rw [List.length_append]; split <;> simp only [List.length_cons, List.length_nil] <;> omega) (by rw [List.length_append]; split <;> simp only [List.length_cons, List.length_nil] <;> omega)
    rw [List.append_assoc, List.append_assoc] at hi
    have hj := spec_both_j4 (d := d) ⟨hd, by omega⟩ (by omega) (by omega) _ hi
    refine Ev.step (fun k => by rw [spec_Both.l0]) ?_
    simp only [if_pos (show d ≤ T by omega)]
    refine Ev.bind (spec_on_ev w f t ns al hp d) ?_
    cases c : onB w f t ns al d with
    | true =>
      simp only [if_true]
      refine Ev.bind (spec_on_ev w2 f2 t2 ns2 al2 hq d) ?_
      have e : bothO w f t ns al w2 f2 t2 ns2 al2 d = onB w2 f2 t2 ns2 al2 d := by unfold bothO; rw [c, Bool.true_and]
      rw [← e]
      exact hj
    | false =>
      simp only [Bool.false_eq_true, if_false]
      have e : bothO w f t ns al w2 f2 t2 ns2 al2 d = false := by unfold bothO; rw [c, Bool.false_and]
      rw [← e]
      exact hj
theorem spec_both_j1 {w f t : Int} {ns al : List Int} {w2 f2 t2 : Int} {ns2 al2 : List Int} {W F T : Int} {r : Pat} (hr : r = if F > mn t t2 then (0, 0, 0, [], []) else r)
    (h : ¬ F > mn t t2 → Ev (fun k => spec_Both.l0 k F w f t ns al w2 f2 t2 ns2 al2 W F (mn t t2) [] []) r) (hT : T = t) :
    Ev (fun k => spec_Both.j1 k w f t ns al w2 f2 t2 ns2 al2 W F T) r := by
  subst hT
  have hj : Ev (fun k => spec_Both.j2 k w f T ns al w2 f2 t2 ns2 al2 W F (mn T t2)) r := by
    refine Ev.step (fun k => by rw [spec_Both.j2]) ?_
    by_cases c : F > mn T t2
    · simp only [if_pos c]
      rw [if_pos c] at hr
      rw [hr]; exact ev_some
    · simp only [if_neg c]; exact h c
  refine Ev.step (fun k => by rw [spec_Both.j1]) ?_
  by_cases c : t2 < T
  · simp only [if_pos c]
    have : mn T t2 = t2 := by unfold mn; rw [if_pos c]
    rw [this] at hj; exact hj
  · simp only [if_neg c]
    have : mn T t2 = T := by unfold mn; rw [if_neg c]
    rw [this] at hj; exact hj
theorem spec_both_ev (w f t : Int) (ns al : List Int) (w2 f2 t2 : Int) (ns2 al2 : List Int) (h1 : ns.length ≤ 2000000) (h2 : al.length ≤ 2000000) (h3 : ns2.length ≤ 2000000) (h4 : al2.length ≤ 2000000) : Ev (fun k => spec_Both.f k w f t ns al w2 f2 t2 ns2 al2) (bothR w f t ns al w2 f2 t2 ns2 al2) := by
  have hno : ∀ r, r = (0, 0, 0, [], []) → Ev (fun k => spec_Both.j0 k true w f t ns al w2 f2 t2 ns2 al2) r := fun r hr => by
    rw [hr]; exact Ev.step (fun k => by rw [spec_Both.j0]) (by simpa using ev_some)
  unfold spec_Both.f bothR
  refine Ev.bind (spec_pat_ev w f t ns al h1 h2) ?_
  by_cases hp : patB w f t ns al = true
  · simp only [hp, if_true]
    refine Ev.bind (spec_pat_ev w2 f2 t2 ns2 al2 h3 h4) ?_
    by_cases hq : patB w2 f2 t2 ns2 al2 = true
    · simp only [hq, Bool.not_true, if_pos (show True ∧ True from ⟨trivial, trivial⟩)]
      obtain ⟨_, p2, _⟩ := patB_parts hp
      obtain ⟨_, q2, _⟩ := patB_parts hq
      obtain ⟨m1, m2, m3, m4, m5, m6⟩ := mxn f f2 t t2
      refine Ev.step (fun k => by rw [spec_Both.j0]) ?_
      simp only [Bool.false_eq_true, if_false]
      have hgo : Ev (fun k => spec_Both.j1 k w f t ns al w2 f2 t2 ns2 al2 (Go.bits .and .i64 w w2) (mx f f2) t) (if mx f f2 > mn t t2 then (0, 0, 0, [], []) else
          finB (Go.bits .and .i64 w w2) (mx f f2) (mn t t2) (skN (Go.bits .and .i64 w w2) (bothO w f t ns al w2 f2 t2 ns2 al2) (mn t t2 - mx f f2 + 1).toNat (mx f f2)) (exN (Go.bits .and .i64 w w2) (bothO w f t ns al w2 f2 t2 ns2 al2) (mn t t2 - mx f f2 + 1).toNat (mx f f2))) := by
        refine spec_both_j1 (by split <;> rfl) (fun c => ?_) rfl
        rw [if_neg c]
        have := spec_both_loop hp hq (Go.bits .and .i64 w w2) (mx f f2) (mn t t2) (by omega) _ (mx f f2) [] [] rfl (by omega) (by simp; omega) (by simp; omega)
        rw [List.nil_append, List.nil_append] at this
        exact this
      by_cases c : f2 > f
      · simp only [if_pos c]
        have : mx f f2 = f2 := by unfold mx; rw [if_pos (show f < f2 by omega)]
        rw [this] at hgo ⊢; exact hgo
      · simp only [if_neg c]
        have : mx f f2 = f := by unfold mx; rw [if_neg (show ¬ f < f2 by omega)]
        rw [this] at hgo ⊢; exact hgo
    · have hq' : patB w2 f2 t2 ns2 al2 = false := by simpa using hq
      simp only [hq', Bool.not_false]
      exact hno _ (by rw [if_neg (fun h => by cases h.2)])
  · have hp' : patB w f t ns al = false := by simpa using hp
    simp only [hp', Bool.false_eq_true, if_false]
    exact hno _ (by rw [if_neg (fun h => h.1)])
theorem toIntS_ev (xs : List Int) (hn : xs.length ≤ 2000000) : Ev (fun k => laws_toIntS.f k xs) xs := by
  unfold laws_toIntS.f
  simp only [if_pos (show 0 ≤ (xs.length : Int) by omega), if_pos (show ((xs.length : Int)).toNat ≤ 35184372088832 by omega)]
  have h := copy_loop (fun b : Int => b) 0 xs (fun k acc i => laws_toIntS.l0 k xs acc i) (by omega) (fun k acc j => by
    simp only [laws_toIntS.l0, rd, Int.toNat_natCast, if_pos (show 0 ≤ (j : Int) by omega), Int.ofNat_lt]) xs.length 0 (List.replicate xs.length 0) (by omega) (by omega) (by simp) (by simp)
  simpa using h
theorem eqIntS_ev (xs : List Int) (hn : xs.length ≤ 2000000) : Ev (fun k => laws_eqIntS.f k xs xs) true := by
  unfold laws_eqIntS.f
  simp only [if_true]
  refine all_loop xs.length (fun k i => laws_eqIntS.l0 k xs xs i) (by omega) (fun k j hj => ?_) (fun k => ?_) xs.length 0 (by omega) (by omega)
  · simp [laws_eqIntS.l0, hj]
  · simp [laws_eqIntS.l0]
theorem sz_int (xs : List Int) (a : Int) (h0 : 0 ≤ a) (h1 : a ≤ 9223372036854775807) (hn : xs.length ≤ 9223372036854775807) : laws_szIntS.f xs a = some (if a - xs.length < 0 then -1 else a - xs.length) := by
  unfold laws_szIntS.f
  rw [w64 (x := a - (xs.length : Int)) (by omega) (by omega)]
  split <;> rfl
theorem sz_pat (w f t : Int) (ns al : List Int) (hn : ns.length ≤ 9223372036854775807) (ha : al.length ≤ 9223372036854775807) : ∃ r, laws_szPattern.f w f t ns al 1048576 = some r ∧ (r < 0 ∨ (ns.length ≤ 1048576 ∧ al.length ≤ 1048576)) := by
  unfold laws_szPattern.f
  rw [sz_int ns 1048576 (by omega) (by omega) hn]
  simp only [Option.bind_some]
  by_cases c : (1048576 : Int) - ns.length < 0
  · simp only [if_pos c, if_pos (show (-1 : Int) < 0 by decide)]
    exact ⟨_, rfl, Or.inl (by decide)⟩
  · simp only [if_neg c]
    rw [sz_int al _ (by omega) (by omega) ha]
    simp only [Option.bind_some]
    by_cases c2 : (1048576 : Int) - ns.length - al.length < 0
    · simp only [if_pos c2, if_pos (show (-1 : Int) < 0 by decide)]
      exact ⟨_, rfl, Or.inl (by decide)⟩
    · simp only [if_neg c2]
      exact ⟨_, rfl, Or.inr (by omega)⟩
theorem toPat_ev (w f t : Int) (ns al : List Int) (hn : ns.length ≤ 2000000) (ha : al.length ≤ 2000000) : Ev (fun k => laws_toPattern.f k w f t ns al) (w, f, t, ns, al) := by
  unfold laws_toPattern.f
  exact Ev.bind (toIntS_ev ns hn) (Ev.bind (toIntS_ev al ha) ev_some)
theorem eqPat_ev (w f t : Int) (ns al : List Int) (hn : ns.length ≤ 2000000) (ha : al.length ≤ 2000000) : Ev (fun k => laws_eqPattern.f k w f t ns al w f t ns al) true := by
  unfold laws_eqPattern.f
  simp only [if_true]
  refine Ev.bind (eqIntS_ev ns hn) ?_
  simp only [if_true]
  refine Ev.bind (eqIntS_ev al ha) ?_
  simp only [if_true]
  exact ev_some
def markI (s : Int) (_ : Int) : Int := s
theorem markIntS_ev (xs : List Int) (hn : xs.length ≤ 2000000) (s : Nat) (hs : s ≤ 20000000) : Ev (fun k => laws_markIntS.f k xs (s : Int)) (((s + 1 * xs.length : Nat) : Int), marked 1 markI s xs) := by
  unfold laws_markIntS.f
  have h := mark_loop 1 (by omega) markI 0 xs (fun k acc s i => laws_markIntS.l0 k acc s i) hn s hs
    (fun k acc s j h1 h2 h3 => by
      simp only [laws_markIntS.l0, h1, if_pos (show (j : Int) < (xs.length : Int) by omega), if_pos (show 0 ≤ (j : Int) by omega), Int.toNat_natCast, markI]
      rw [w64 (x := (s : Int) + 1) (by omega) (by omega)]; rfl)
    (fun k acc s h1 => by simp [laws_markIntS.l0, h1]) xs.length 0 xs (by omega) (by omega) rfl (by simp) rfl
  simpa using h
theorem heldIntS_ev (xs : List Int) (hn : xs.length ≤ 2000000) (s : Nat) (hs : s ≤ 20000000) : Ev (fun k => laws_heldIntS.f k (marked 1 markI s xs) (s : Int)) ((s + 1 * xs.length : Nat) : Int) := by
  unfold laws_heldIntS.f
  have hl := marked_length 1 markI s xs
  have h := held_loop 1 (by omega) xs.length (fun k s' i => laws_heldIntS.l0 k (marked 1 markI s xs) s' i) hn s hs
    (fun k j hj => by
      have hm := marked_at 1 markI s xs j 0 hj
      simp only [laws_heldIntS.l0, hl, if_pos (show (j : Int) < (xs.length : Int) by omega), if_pos (show 0 ≤ (j : Int) by omega), rd, Int.toNat_natCast, List.getD_eq_getElem?_getD, hm, Option.getD_some, markI]
      rw [if_pos (by omega), w64 (x := ((s + 1 * j : Nat) : Int) + 1) (by omega) (by omega)]; rfl)
    (fun k s' => by simp [laws_heldIntS.l0, hl]) xs.length 0 (by omega) (by omega)
  simpa using h
theorem markPat_ev (w f t : Int) (ns al : List Int) (hn : ns.length ≤ 2000000) (ha : al.length ≤ 2000000) : Ev (fun k => laws_markPattern.f k w f t ns al 1) (((1 + 1 * ns.length + 1 * al.length : Nat) : Int), marked 1 markI ((1 : Nat) : Int) ns, marked 1 markI ((1 + 1 * ns.length : Nat) : Int) al) := by
  unfold laws_markPattern.f
  exact Ev.bind (markIntS_ev ns hn 1 (by omega)) (Ev.bind (markIntS_ev al ha (1 + 1 * ns.length) (by omega)) ev_some)
theorem heldPat_ev (w f t : Int) (ns al : List Int) (hn : ns.length ≤ 2000000) (ha : al.length ≤ 2000000) : Ev (fun k => laws_heldPattern.f k w f t (marked 1 markI ((1 : Nat) : Int) ns) (marked 1 markI ((1 + 1 * ns.length : Nat) : Int) al) 1) ((1 + 1 * ns.length + 1 * al.length : Nat) : Int) := by
  unfold laws_heldPattern.f
  refine Ev.bind (heldIntS_ev ns hn 1 (by omega)) ?_
  simp only [if_neg (show ¬ ((1 + 1 * ns.length : Nat) : Int) < 0 by omega)]
  refine Ev.bind (heldIntS_ev al ha (1 + 1 * ns.length) (by omega)) ?_
  simp only [if_neg (show ¬ ((1 + 1 * ns.length + 1 * al.length : Nat) : Int) < 0 by omega)]
  exact ev_some
theorem sz_pat_from (w f t : Int) (ns al : List Int) (a : Int) (h0 : 0 ≤ a) (h1 : a ≤ 1048576) (hn : ns.length ≤ 9223372036854775807) (ha : al.length ≤ 9223372036854775807) : ∃ r, laws_szPattern.f w f t ns al a = some r ∧ (r < 0 ∨ (ns.length ≤ 1048576 ∧ al.length ≤ 1048576 ∧ 0 ≤ r ∧ r ≤ 1048576)) := by
  unfold laws_szPattern.f
  rw [sz_int ns a h0 (by omega) hn]
  simp only [Option.bind_some]
  by_cases c : a - ns.length < 0
  · simp only [if_pos c, if_pos (show (-1 : Int) < 0 by decide)]
    exact ⟨_, rfl, Or.inl (by decide)⟩
  · simp only [if_neg c]
    rw [sz_int al _ (by omega) (by omega) ha]
    simp only [Option.bind_some]
    by_cases c2 : a - ns.length - al.length < 0
    · simp only [if_pos c2, if_pos (show (-1 : Int) < 0 by decide)]
      exact ⟨_, rfl, Or.inl (by decide)⟩
    · simp only [if_neg c2]
      exact ⟨_, rfl, Or.inr (by omega)⟩
theorem markPat_from (w f t : Int) (ns al : List Int) (hn : ns.length ≤ 2000000) (ha : al.length ≤ 2000000) (s : Nat) (hs : s ≤ 8000000) : Ev (fun k => laws_markPattern.f k w f t ns al (s : Int)) (((s + 1 * ns.length + 1 * al.length : Nat) : Int), marked 1 markI (s : Int) ns, marked 1 markI ((s + 1 * ns.length : Nat) : Int) al) := by
  unfold laws_markPattern.f
  exact Ev.bind (markIntS_ev ns hn s (by omega)) (Ev.bind (markIntS_ev al ha (s + 1 * ns.length) (by omega)) ev_some)
theorem FnExactBoth : laws_FnExactBoth.Pure := by
  intro w f t ns al w2 f2 t2 ns2 al2 _ _ _ h3 h4 _ _ _ h5 h6
  refine Ev.rounds ?_
  unfold laws_FnExactBoth.f
  have hm : maxLen ≤ 9223372036854775807 := by decide
  obtain ⟨r, hr, hc⟩ := sz_pat_from w f t ns al 1048576 (by decide) (by decide) (by omega) (by omega)
  simp only [hr, Option.bind_some]
  by_cases c : r < 0
  · simp only [if_pos c]; exact ev_some
  · simp only [if_neg c]
    obtain ⟨r2, hr2, hc2⟩ := sz_pat_from w2 f2 t2 ns2 al2 r (by omega) (by omega) (by omega) (by omega)
    simp only [hr2, Option.bind_some]
    by_cases c2 : r2 < 0
    · simp only [if_pos c2]; exact ev_some
    · simp only [if_neg c2]
      have hn : ns.length ≤ 2000000 := by omega
      have ha : al.length ≤ 2000000 := by omega
      have hn2 : ns2.length ≤ 2000000 := by omega
      have ha2 : al2.length ≤ 2000000 := by omega
      have hl := bothR_len w f t ns al w2 f2 t2 ns2 al2
      have es := spec_both_ev w f t ns al w2 f2 t2 ns2 al2 hn ha hn2 ha2
      have ei := impl_both_ev w f t ns al w2 f2 t2 ns2 al2 hn ha hn2 ha2
      generalize bothR w f t ns al w2 f2 t2 ns2 al2 = R at hl es ei
      obtain ⟨W, F, T, X, Y⟩ := R
      simp only at hl
      have hX : X.length ≤ 2000000 := by omega
      have hY : Y.length ≤ 2000000 := by omega
      refine Ev.bind (toPat_ev w f t ns al hn ha) (Ev.bind (toPat_ev w2 f2 t2 ns2 al2 hn2 ha2) (Ev.bind es (Ev.bind (toPat_ev w f t ns al hn ha) (Ev.bind (toPat_ev w2 f2 t2 ns2 al2 hn2 ha2) (Ev.bind ei (Ev.bind (eqPat_ev W F T X Y hX hY) ?_))))))
      simp only [if_true]
      refine Ev.bind (toPat_ev w f t ns al hn ha) (Ev.bind (eqPat_ev w f t ns al hn ha) ?_)
      simp only [if_true]
      refine Ev.bind (toPat_ev w2 f2 t2 ns2 al2 hn2 ha2) (Ev.bind (eqPat_ev w2 f2 t2 ns2 al2 hn2 ha2) ?_)
      simp only [if_true]
      refine Ev.bind (markPat_ev w f t ns al hn ha) (Ev.bind (markPat_from w2 f2 t2 ns2 al2 hn2 ha2 _ (by omega)) ?_)
      simp only [if_neg (show ¬ ((1 + 1 * ns.length + 1 * al.length + 1 * ns2.length + 1 * al2.length : Nat) : Int) < 0 by omega)]
      refine Ev.bind (eqPat_ev W F T X Y hX hY) ?_
      simp only [if_true]
      refine Ev.bind (markPat_ev W F T X Y hX hY) (Ev.bind (heldPat_ev W F T X Y hX hY) ?_)
      simp only [if_neg (show ¬ ((1 + 1 * X.length + 1 * Y.length : Nat) : Int) < 0 by omega), if_true]
      refine Ev.bind (toPat_ev w f t ns al hn ha) (Ev.bind (toPat_ev w2 f2 t2 ns2 al2 hn2 ha2) (Ev.bind ei (Ev.bind (eqPat_ev W F T X Y hX hY) ?_)))
      simp only [if_true]
      refine Ev.bind (heldPat_ev W F T X Y hX hY) ?_
      simp only [if_neg (show ¬ ((1 + 1 * X.length + 1 * Y.length : Nat) : Int) < 0 by omega), if_true]
      exact ev_some

end Go.Proofs.Ytgjhlkjfdlkndaa.Pure
