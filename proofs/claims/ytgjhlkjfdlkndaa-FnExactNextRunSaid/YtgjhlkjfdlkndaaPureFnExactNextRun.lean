/- The program's NextRun returns what the reference's returns, for all patterns and days. -/
import Derived.Test.YtgjhlkjfdlkndaaRowFnExactNextRun
namespace Go.Proofs.Ytgjhlkjfdlkndaa.Pure
open Go.RowKit Go.Proofs.Ytgjhlkjfdlkndaa.PFnExactNextRun Go.Proofs.YtgjhlkjfdlkndaaW.PrintWords Go.Proofs.YtgjhlkjfdlkndaaW.PrintLast Go.Proofs.YtgjhlkjfdlkndaaW.PrintMore
set_option linter.unusedVariables false
set_option linter.unusedSimpArgs false
theorem w64 {x : Int} (h0 : -9223372036854775808 ≤ x) (h1 : x ≤ 9223372036854775807) : wrap64 x = x := by unfold wrap64; omega
theorem ev_k {α : Type} {g : Nat → Option α} {r : α} (h : ∀ k, g k = some r) : Ev g r := ⟨0, fun k _ => h k⟩
theorem ev_some {α : Type} {r : α} : Ev (fun _ => some r) r := Ev.now r
theorem wf_i64 {x : Int} (h : (Lit.int .i64 x).wf = true) : -9223372036854775808 ≤ x ∧ x ≤ 9223372036854775807 := by
  simp only [Lit.wf, Bool.and_eq_true, decide_eq_true_eq] at h
  have h1 : IntKind.min .i64 = -9223372036854775808 := by decide
  have h2 : IntKind.max .i64 = 9223372036854775807 := by decide
  omega
theorem wf_u8 {x : Int} (h : (Lit.int .u8 x).wf = true) : 0 ≤ x ∧ x ≤ 255 := by
  simp only [Lit.wf, Bool.and_eq_true, decide_eq_true_eq] at h
  have h1 : IntKind.min .u8 = 0 := by decide
  have h2 : IntKind.max .u8 = 255 := by decide
  omega
/-! Loops over lists, whatever the elements. -/
theorem nat_w {j : Nat} (h : j ≤ 9223372036854775806) : wrap64 ((j : Int) + 1) = ((j + 1 : Nat) : Int) := by rw [w64 (by omega) (by omega)]; omega
theorem set_take {α : Type} {acc ys : List α} {j : Nat} (hl : acc.length = ys.length) (ht : acc.take j = ys.take j) (hj : j < ys.length) {v : α} (hv : ys[j]? = some v) : (acc.set j v).take (j + 1) = ys.take (j + 1) := by
  apply List.ext_getElem?
  intro i
  by_cases hi : i < j + 1
  · rw [List.getElem?_take_of_lt hi, List.getElem?_take_of_lt hi]
    by_cases e : i = j
    · subst e
      rw [List.getElem?_set_self (by omega), hv]
    · rw [List.getElem?_set_ne (by omega)]
      have h1 := congrArg (fun l => l[i]?) ht
      simp only [List.getElem?_take_of_lt (show i < j by omega)] at h1
      exact h1
  · rw [List.getElem?_eq_none (by simp; omega), List.getElem?_eq_none (by simp; omega)]
theorem getD_some {α : Type} {xs : List α} {j : Nat} (h : j < xs.length) (d : α) : xs[j]? = some (xs.getD j d) := by
  rw [List.getD_eq_getElem?_getD, List.getElem?_eq_getElem h]; rfl
/-- A loop that writes g of each element of xs into a row of the same length. -/
theorem copy_loop {α β : Type} (g : β → α) (d : β) (xs : List β) (L : Nat → List α → Int → Option (List α)) (hn : xs.length ≤ 9223372036854775806)
    (hs : ∀ k acc (j : Nat), L (k + 1) acc (j : Int) = if j < xs.length then (if j < acc.length then L k (acc.set j (g (xs.getD j d))) (wrap64 ((j : Int) + 1)) else none) else some acc)
    (m : Nat) : ∀ (j : Nat) (acc : List α), xs.length - j = m → j ≤ xs.length → acc.length = xs.length → acc.take j = (xs.map g).take j → Ev (fun k => L k acc (j : Int)) (xs.map g) := by
  induction m with
  | zero =>
    intro j acc h0 h1 h2 h3
    refine Ev.step (fun k => hs k acc j) ?_
    simp only [if_neg (show ¬ j < xs.length by omega)]
    have e : acc = xs.map g := by
      have h4 : acc.take j = acc := List.take_of_length_le (by omega)
      have h5 : (xs.map g).take j = xs.map g := List.take_of_length_le (by simp; omega)
      rw [← h4, h3, h5]
    rw [e]
    exact ev_some
  | succ m ih =>
    intro j acc h0 h1 h2 h3
    refine Ev.step (fun k => hs k acc j) ?_
    simp only [if_pos (show j < xs.length by omega), if_pos (show j < acc.length by omega)]
    rw [nat_w (by omega)]
    refine ih (j + 1) _ (by omega) (by omega) (by simpa using h2) ?_
    refine set_take (by simpa using h2) h3 (by simp; omega) ?_
    rw [List.getElem?_map, getD_some (show j < xs.length by omega) d]
    rfl
/-- A loop that asks each index, and goes on where the answer is yes. -/
theorem all_loop (n : Nat) (L : Nat → Int → Option Bool) (hn : n ≤ 9223372036854775806) (hs : ∀ k (j : Nat), j < n → L (k + 1) (j : Int) = L k (wrap64 ((j : Int) + 1))) (he : ∀ k, L (k + 1) (n : Int) = some true)
    (m : Nat) : ∀ j : Nat, n - j = m → j ≤ n → Ev (fun k => L k (j : Int)) true := by
  induction m with
  | zero =>
    intro j h0 h1
    obtain rfl : j = n := by omega
    exact Ev.step (fun k => he k) ev_some
  | succ m ih =>
    intro j h0 h1
    refine Ev.step (fun k => hs k j (by omega)) ?_
    rw [nat_w (by omega)]
    exact ih (j + 1) (by omega) (by omega)
/-- The elements one behind the other, each turned by f with a number that goes on by c. -/
def marked {α : Type} (c : Int) (f : Int → α → α) : Int → List α → List α
  | _, [] => []
  | s, x :: xs => f s x :: marked c f (s + c) xs
theorem marked_length {α : Type} (c : Int) (f : Int → α → α) : ∀ (s : Int) (xs : List α), (marked c f s xs).length = xs.length
  | _, [] => rfl
  | s, x :: xs => by simp [marked, marked_length c f (s + c) xs]
theorem marked_at {α : Type} (c : Int) (f : Int → α → α) : ∀ (s : Int) (xs : List α) (j : Nat) (d : α), j < xs.length → (marked c f s xs)[j]? = some (f (s + c * j) (xs.getD j d))
  | _, [], j, d, h => by simp at h
  | s, x :: xs, 0, d, _ => by simp [marked]
  | s, x :: xs, j + 1, d, h => by
    have := marked_at c f (s + c) xs j d (by simpa using h)
    simp only [marked, List.getElem?_cons_succ, List.getD_cons_succ]
    rw [this]
    congr 2
    rw [Int.natCast_succ, Int.mul_add]; omega
/-- A loop that marks a row. -/
theorem mark_loop {α : Type} (c : Nat) (hc : c ≤ 8) (f : Int → α → α) (d : α) (xs : List α) (L : Nat → List α → Int → Int → Option (Int × List α)) (hn : xs.length ≤ 2000000) (s0 : Nat) (hs0 : s0 ≤ 20000000)
    (hs : ∀ k acc (s : Nat) (j : Nat), acc.length = xs.length → s ≤ 40000000 → j < xs.length → L (k + 1) acc (s : Int) (j : Int) = L k (acc.set j (f (s : Int) (acc.getD j d))) ((s + c : Nat) : Int) (wrap64 ((j : Int) + 1)))
    (he : ∀ k acc (s : Int), acc.length = xs.length → L (k + 1) acc s (xs.length : Int) = some (s, acc))
    (m : Nat) : ∀ (j : Nat) (acc : List α), xs.length - j = m → j ≤ xs.length → acc.length = xs.length → acc.take j = (marked c f s0 xs).take j → acc.drop j = xs.drop j → Ev (fun k => L k acc ((s0 + c * j : Nat) : Int) (j : Int)) (((s0 + c * xs.length : Nat) : Int), marked c f s0 xs) := by
  induction m with
  | zero =>
    intro j acc h0 h1 h2 h3 _
    obtain rfl : j = xs.length := by omega
    refine Ev.step (fun k => he k acc _ h2) ?_
    have e : acc = marked c f s0 xs := by
      have h4 : acc.take xs.length = acc := List.take_of_length_le (by omega)
      have h5 : (marked c f s0 xs).take xs.length = marked c f s0 xs := List.take_of_length_le (by rw [marked_length]; omega)
      rw [← h4, h3, h5]
    rw [e]
    exact ev_some
  | succ m ih =>
    intro j acc h0 h1 h2 h3 h4
    have hb : c * j ≤ 8 * 2000000 := Nat.mul_le_mul hc (by omega)
    refine Ev.step (fun k => hs k acc _ j h2 (by omega) (by omega)) ?_
    rw [nat_w (by omega), show s0 + c * j + c = s0 + c * (j + 1) by rw [Nat.mul_add]; omega]
    have hg : acc.getD j d = xs.getD j d := by
      have h5 := congrArg (fun l => l[0]?) h4
      simp only [List.getElem?_drop, Nat.add_zero] at h5
      rw [List.getD_eq_getElem?_getD, List.getD_eq_getElem?_getD, h5]
    refine ih (j + 1) _ (by omega) (by omega) (by simpa using h2) ?_ ?_
    · refine set_take (by rw [marked_length]; exact h2) h3 (by rw [marked_length]; omega) ?_
      rw [marked_at c f s0 xs j d (by omega), hg]
      simp
    · rw [List.drop_set_of_lt (by omega), ← List.drop_drop, h4, List.drop_drop]
/-- A loop that looks whether a row is marked so. -/
theorem held_loop (c : Nat) (hc : c ≤ 8) (n : Nat) (L : Nat → Int → Int → Option Int) (hn : n ≤ 2000000) (s0 : Nat) (hs0 : s0 ≤ 20000000)
    (hs : ∀ k (j : Nat), j < n → L (k + 1) ((s0 + c * j : Nat) : Int) (j : Int) = L k ((s0 + c * j + c : Nat) : Int) (wrap64 ((j : Int) + 1)))
    (he : ∀ k (s : Int), L (k + 1) s (n : Int) = some s)
    (m : Nat) : ∀ j : Nat, n - j = m → j ≤ n → Ev (fun k => L k ((s0 + c * j : Nat) : Int) (j : Int)) (((s0 + c * n : Nat) : Int)) := by
  induction m with
  | zero =>
    intro j h0 h1
    obtain rfl : j = n := by omega
    exact Ev.step (fun k => he k _) ev_some
  | succ m ih =>
    intro j h0 h1
    refine Ev.step (fun k => hs k j (by omega)) ?_
    rw [nat_w (by omega), show s0 + c * j + c = s0 + c * (j + 1) by rw [Nat.mul_add]; omega]
    exact ih (j + 1) (by omega) (by omega)
theorem drop_cons {α : Type} {xs : List α} {j : Nat} {t : α} {rest : List α} (h : xs.drop j = t :: rest) : j < xs.length ∧ (∀ d, xs.getD j d = t) ∧ xs.drop (j + 1) = rest := by
  have hj : j < xs.length := by
    rcases Nat.lt_or_ge j xs.length with h1 | h1
    · exact h1
    · rw [List.drop_of_length_le h1] at h; cases h
  rw [List.drop_eq_getElem_cons hj] at h
  injection h with h1 h2
  exact ⟨hj, fun d => by rw [List.getD_eq_getElem?_getD, List.getElem?_eq_getElem hj, ← h1]; rfl, h2⟩
theorem drop_nil {α : Type} {xs : List α} {j : Nat} (h : xs.drop j = []) : xs.length ≤ j := by simpa using h
theorem rdI_at (xs : List Int) (j : Nat) : rd xs (j : Int) = xs.getD j 0 := by unfold rd; rw [Int.toNat_natCast]
theorem rdB_at (xs : List Bool) (j : Nat) : rdOf false xs (j : Int) = xs.getD j false := by unfold rdOf; rw [Int.toNat_natCast]
theorem spec_in (x lo hi : Int) : spec_l01In.f x lo hi = some (decide (lo ≤ x ∧ x ≤ hi)) := by
  unfold spec_l01In.f
  by_cases h : lo ≤ x <;> simp [h]
theorem impl_in (x lo hi : Int) : impl_between.f x lo hi = some (decide (lo ≤ x ∧ x ≤ hi)) := by
  unfold impl_between.f
  by_cases h : x ≥ lo
  · have h' : lo ≤ x := h
    simp [h, h']
  · have h' : ¬ lo ≤ x := h
    simp [h, h']
/-! Days and patterns. -/
def wk (w d : Int) : Bool := Go.bits .and .i64 (shr .i64 w (Int.tmod d 7)) 1 == 1
def prevOk (xs : List Int) (j : Nat) : Bool := j == 0 || decide (xs.getD (j - 1) 0 < xs.getD j 0)
def dayB (w f t : Int) (b : Bool) (xs : List Int) (j : Nat) (d : Int) : Bool := decide (f ≤ d ∧ d ≤ t) && prevOk xs j && (wk w d == b)
def daysB (w f t : Int) (b : Bool) (xs : List Int) : Nat → List Int → Bool
  | _, [] => true
  | j, d :: ds => dayB w f t b xs j d && daysB w f t b xs (j + 1) ds
def patB (w f t : Int) (ns al : List Int) : Bool :=
  decide (0 ≤ w ∧ w ≤ 127) && decide (0 ≤ f ∧ f ≤ t ∧ t ≤ 3650) && (decide (ns.length ≤ 20) && daysB w f t true ns 0 ns) && (decide (al.length ≤ 20) && daysB w f t false al 0 al)
def onB (w f t : Int) (ns al : List Int) (d : Int) : Bool := decide (f ≤ d ∧ d ≤ t) && (if wk w d = true then !decide (d ∈ ns) else decide (d ∈ al))
theorem daysB_all {w f t : Int} {b : Bool} {xs : List Int} : ∀ (l : List Int) (j : Nat), daysB w f t b xs j l = true → ∀ d ∈ l, (f ≤ d ∧ d ≤ t) ∧ wk w d = b
  | [], _, _, d, h => by cases h
  | x :: l, j, h, d, hd => by
    simp only [daysB, dayB, Bool.and_eq_true, decide_eq_true_eq, beq_iff_eq] at h
    rcases List.mem_cons.mp hd with rfl | h2
    · exact ⟨h.1.1.1, h.1.2⟩
    · exact daysB_all l (j + 1) h.2 d h2
theorem spec_week_ev (w d : Int) (h0 : 0 ≤ d) : spec_l01Week.f w d = some (wk w d) := by
  have h7 : Int.tmod d 7 = d % 7 := Int.tmod_eq_emod_of_nonneg h0
  have hm : spec_l01Mod.f d 7 = some (Int.tmod d 7) := by
    unfold spec_l01Mod.f
    rw [if_neg (by decide), if_neg (by rw [h7]; omega)]
  have hw : IntKind.u64.wrap (Int.tmod d 7) = Int.tmod d 7 := by
    rw [h7]
    have : IntKind.u64.wrap (d % 7) = (d % 7) % 18446744073709551616 := rfl
    rw [this]; omega
  unfold spec_l01Week.f wk
  rw [hm]
  simp only [Option.bind_some, hw]
  rw [if_pos (by rw [h7]; omega)]
theorem spec_days_loop (w f t : Int) (h0 : 0 ≤ f) (b : Bool) (xs ns al : List Int) (hn : xs.length ≤ 2000000) : ∀ (rest : List Int) (j : Nat), xs.drop j = rest → j ≤ xs.length →
    Ev (fun k => spec_l01Days.l0 k xs b (j : Int) w f t ns al) (daysB w f t b xs j rest && decide (xs.length ≤ 20)) := by
  intro rest
  induction rest with
  | nil =>
    intro j h hl
    have := drop_nil h
    refine Ev.step (fun k => by rw [spec_l01Days.l0]) ?_
    simp only [if_neg (show ¬ (j : Int) < (xs.length : Int) by omega), daysB, Bool.true_and]
    have e : decide ((xs.length : Int) ≤ 20) = decide (xs.length ≤ 20) := decide_eq_decide.mpr (by omega)
    rw [e]; exact ev_some
  | cons d rest ih =>
    intro j h hl
    obtain ⟨h1, h2, h3⟩ := drop_cons h
    refine Ev.step (fun k => by rw [spec_l01Days.l0]) ?_
    simp only [if_pos (show (j : Int) < (xs.length : Int) by omega), if_pos (show 0 ≤ (j : Int) by omega), rdI_at, h2, spec_in, Option.bind_some, decide_eq_true_eq]
    by_cases c1 : f ≤ d ∧ d ≤ t
    · have hd : 0 ≤ d := by omega
      simp only [if_pos c1, spec_week_ev w d hd, Option.bind_some, nat_w (show j ≤ 9223372036854775806 by omega)]
      have hi := ih (j + 1) h3 (by omega)
      by_cases c0 : j = 0
      · subst c0
        simp only [if_neg (show ¬ ((0 : Nat) : Int) > 0 by omega)]
        by_cases c2 : wk w d = b
        · subst c2
          simpa [daysB, dayB, c1, prevOk] using hi
        · have c3 : (wk w d != b) = true := by simpa using c2
          simp only [c3, if_true]
          have e : (wk w d == b) = false := by simpa using c2
          simp only [daysB, dayB, e, Bool.and_false, Bool.false_and]
          exact ev_some
      · simp only [if_pos (show (j : Int) > 0 by omega), show (j : Int) - 1 = ((j - 1 : Nat) : Int) by omega, w64 (x := ((j - 1 : Nat) : Int)) (by omega) (by omega), if_pos (show 0 ≤ ((j - 1 : Nat) : Int) by omega), if_pos (show ((j - 1 : Nat) : Int) < (xs.length : Int) by omega), rdI_at]
        by_cases c4 : xs.getD (j - 1) 0 ≥ d
        · simp only [if_pos c4]
          have e : prevOk xs j = false := by
            unfold prevOk; rw [h2]
            simp only [Bool.or_eq_false_iff, beq_eq_false_iff_ne, decide_eq_false_iff_not]
            exact ⟨c0, by omega⟩
          simp only [daysB, dayB, e, Bool.and_false, Bool.false_and]
          exact ev_some
        · simp only [if_neg c4]
          have e : prevOk xs j = true := by
            unfold prevOk; rw [h2]
            simp only [Bool.or_eq_true, decide_eq_true_eq]
            exact Or.inr (by omega)
          by_cases c2 : wk w d = b
          · subst c2
            simpa [daysB, dayB, c1, e] using hi
          · have c3 : (wk w d != b) = true := by simpa using c2
            simp only [c3, if_true]
            have e : (wk w d == b) = false := by simpa using c2
            simp only [daysB, dayB, e, Bool.and_false, Bool.false_and]
            exact ev_some
    · simp only [if_neg c1, daysB, dayB, decide_eq_false c1, Bool.false_and]
      exact ev_some
theorem spec_days_ev (w f t : Int) (h0 : 0 ≤ f) (b : Bool) (xs ns al : List Int) (hn : xs.length ≤ 2000000) : Ev (fun k => spec_l01Days.f k xs w f t ns al b) (decide (xs.length ≤ 20) && daysB w f t b xs 0 xs) := by
  rw [Bool.and_comm]
  exact spec_days_loop w f t h0 b xs ns al hn xs 0 rfl (by omega)
theorem spec_pat_ev (w f t : Int) (ns al : List Int) (hn : ns.length ≤ 2000000) (ha : al.length ≤ 2000000) : Ev (fun k => spec_PatternOk.f k w f t ns al) (patB w f t ns al) := by
  unfold spec_PatternOk.f patB
  simp only [spec_in, Option.bind_some, decide_eq_true_eq]
  by_cases c1 : 0 ≤ w ∧ w ≤ 127
  · by_cases c2 : 0 ≤ t ∧ t ≤ 3650
    · by_cases c3 : 0 ≤ f ∧ f ≤ t
      · simp only [if_pos c1, if_pos c2, if_pos c3]
        rw [decide_eq_true c1, decide_eq_true (show 0 ≤ f ∧ f ≤ t ∧ t ≤ 3650 by omega)]
        simp only [Bool.true_and]
        refine Ev.bind (spec_days_ev w f t c3.1 true ns ns al hn) ?_
        cases hd : (decide (ns.length ≤ 20) && daysB w f t true ns 0 ns) with
        | false => simpa using ev_some
        | true =>
          simp only [if_true, Bool.true_and]
          exact Ev.bind (spec_days_ev w f t c3.1 false al ns al ha) ev_some
      · simp only [if_pos c1, if_pos c2, if_neg c3]
        rw [decide_eq_false (show ¬ (0 ≤ f ∧ f ≤ t ∧ t ≤ 3650) by omega)]
        simpa using ev_some
    · simp only [if_pos c1, if_neg c2]
      rw [decide_eq_false (show ¬ (0 ≤ f ∧ f ≤ t ∧ t ≤ 3650) by omega)]
      simpa using ev_some
  · simp only [if_neg c1, decide_eq_false c1, Bool.false_and]
    exact ev_some
theorem impl_week_ev (w d : Int) (h0 : 0 ≤ d) : impl_inWeek.f w d = some (wk w d) := by
  have h7 : Int.tmod d 7 = d % 7 := Int.tmod_eq_emod_of_nonneg h0
  unfold impl_inWeek.f wk
  rw [if_pos (by rw [h7]; omega)]
theorem impl_days_loop (w f t : Int) (h0 : 0 ≤ f) (b : Bool) (xs ns al : List Int) (hn : xs.length ≤ 2000000) : ∀ (rest : List Int) (j : Nat), xs.drop j = rest → j ≤ xs.length →
    Ev (fun k => impl_daysOk.l0 k xs b xs (xs.length : Int) (j : Int) w f t ns al) (daysB w f t b xs j rest) := by
  intro rest
  induction rest with
  | nil =>
    intro j h hl
    have := drop_nil h
    refine Ev.step (fun k => by rw [impl_daysOk.l0]) ?_
    simp only [if_neg (show ¬ (j : Int) < (xs.length : Int) by omega), daysB]
    exact ev_some
  | cons d rest ih =>
    intro j h hl
    obtain ⟨h1, h2, h3⟩ := drop_cons h
    refine Ev.step (fun k => by rw [impl_daysOk.l0]) ?_
    simp only [if_pos (show (j : Int) < (xs.length : Int) by omega), if_pos (show 0 ≤ (j : Int) by omega), rdI_at, h2, impl_in, Option.bind_some, decide_eq_true_eq]
    by_cases c1 : f ≤ d ∧ d ≤ t
    · have hd : 0 ≤ d := by omega
      simp only [if_pos c1, impl_week_ev w d hd, Option.bind_some, nat_w (show j ≤ 9223372036854775806 by omega)]
      have hi := ih (j + 1) h3 (by omega)
      by_cases c2 : wk w d = b
      · have c3 : (wk w d != b) = false := by simpa using c2
        have e2 : (wk w d == b) = true := by simpa using c2
        simp only [c3, Bool.false_eq_true, if_false]
        by_cases c0 : j = 0
        · subst c0
          simp only [if_neg (show ¬ ((0 : Nat) : Int) > 0 by omega)]
          simpa [daysB, dayB, c1, e2, prevOk] using hi
        · simp only [if_pos (show (j : Int) > 0 by omega), show (j : Int) - 1 = ((j - 1 : Nat) : Int) by omega, w64 (x := ((j - 1 : Nat) : Int)) (by omega) (by omega), if_pos (show 0 ≤ ((j - 1 : Nat) : Int) by omega), if_pos (show ((j - 1 : Nat) : Int) < (xs.length : Int) by omega), rdI_at]
          by_cases c4 : xs.getD (j - 1) 0 ≥ d
          · simp only [if_pos c4]
            have e : prevOk xs j = false := by
              unfold prevOk; rw [h2]
              simp only [Bool.or_eq_false_iff, beq_eq_false_iff_ne, decide_eq_false_iff_not]
              exact ⟨c0, by omega⟩
            simp only [daysB, dayB, e, Bool.and_false, Bool.false_and]
            exact ev_some
          · simp only [if_neg c4]
            have e : prevOk xs j = true := by
              unfold prevOk; rw [h2]
              simp only [Bool.or_eq_true, decide_eq_true_eq]
              exact Or.inr (by omega)
            simpa [daysB, dayB, c1, e, e2] using hi
      · have c3 : (wk w d != b) = true := by simpa using c2
        simp only [c3, if_true]
        have e : (wk w d == b) = false := by simpa using c2
        simp only [daysB, dayB, e, Bool.and_false, Bool.false_and]
        exact ev_some
    · simp only [if_neg c1, daysB, dayB, decide_eq_false c1, Bool.false_and]
      exact ev_some
theorem impl_days_ev (w f t : Int) (h0 : 0 ≤ f) (b : Bool) (xs ns al : List Int) (hn : xs.length ≤ 2000000) : Ev (fun k => impl_daysOk.f k w f t ns al xs b) (decide (xs.length ≤ 20) && daysB w f t b xs 0 xs) := by
  unfold impl_daysOk.f
  by_cases c : (xs.length : Int) > 20
  · simp only [if_pos c]
    rw [decide_eq_false (show ¬ xs.length ≤ 20 by omega), Bool.false_and]
    exact ev_some
  · simp only [if_neg c]
    rw [decide_eq_true (show xs.length ≤ 20 by omega), Bool.true_and]
    exact impl_days_loop w f t h0 b xs ns al hn xs 0 rfl (by omega)
theorem impl_pat_ev (w f t : Int) (ns al : List Int) (hn : ns.length ≤ 2000000) (ha : al.length ≤ 2000000) : Ev (fun k => impl_PatternOk.f k w f t ns al) (patB w f t ns al) := by
  unfold impl_PatternOk.f patB
  simp only [impl_in, Option.bind_some, decide_eq_true_eq]
  have hno : ∀ r, r = false → Ev (fun k => impl_PatternOk.j0 k true w f t ns al) r := fun r hr => by
    rw [hr]
    exact Ev.step (fun k => by rw [impl_PatternOk.j0]) (by simpa using ev_some)
  by_cases c1 : 0 ≤ w ∧ w ≤ 127
  · simp only [if_pos c1]
    by_cases c2 : f < 0
    · simp only [if_pos c2]
      exact hno _ (by rw [decide_eq_false (show ¬ (0 ≤ f ∧ f ≤ t ∧ t ≤ 3650) by omega)]; simp)
    · by_cases c3 : f > t
      · simp only [if_neg c2, if_pos c3]
        exact hno _ (by rw [decide_eq_false (show ¬ (0 ≤ f ∧ f ≤ t ∧ t ≤ 3650) by omega)]; simp)
      · by_cases c4 : t > 3650
        · simp only [if_neg c2, if_neg c3, decide_eq_true c4]
          exact hno _ (by rw [decide_eq_false (show ¬ (0 ≤ f ∧ f ≤ t ∧ t ≤ 3650) by omega)]; simp)
        · simp only [if_neg c2, if_neg c3, decide_eq_false c4]
          rw [decide_eq_true c1, decide_eq_true (show 0 ≤ f ∧ f ≤ t ∧ t ≤ 3650 by omega)]
          simp only [Bool.true_and]
          refine Ev.step (fun k => by rw [impl_PatternOk.j0]) ?_
          simp only [Bool.false_eq_true, if_false]
          refine Ev.bind (impl_days_ev w f t (by omega) true ns ns al hn) ?_
          cases hd : (decide (ns.length ≤ 20) && daysB w f t true ns 0 ns) with
          | false => simpa using ev_some
          | true =>
            simp only [if_true, Bool.true_and]
            exact Ev.bind (impl_days_ev w f t (by omega) false al ns al ha) ev_some
  · simp only [if_neg c1, decide_eq_false c1, Bool.false_and]
    exact hno _ rfl
theorem toIntS_ev (xs : List Int) (hn : xs.length ≤ 2000000) : Ev (fun k => laws_toIntS.f k xs) xs := by
  unfold laws_toIntS.f
  simp only [if_pos (show 0 ≤ (xs.length : Int) by omega), if_pos (show ((xs.length : Int)).toNat ≤ 35184372088832 by omega)]
  have h := copy_loop (fun b : Int => b) 0 xs (fun k acc i => laws_toIntS.l0 k xs acc i) (by omega) (fun k acc j => by
    simp only [laws_toIntS.l0, rd, Int.toNat_natCast, if_pos (show 0 ≤ (j : Int) by omega), Int.ofNat_lt]) xs.length 0 (List.replicate xs.length 0) (by omega) (by omega) (by simp) (by simp)
  simpa using h
theorem eqIntS_ev (xs : List Int) (hn : xs.length ≤ 2000000) : Ev (fun k => laws_eqIntS.f k xs xs) true := by
  unfold laws_eqIntS.f
  simp only [if_true]
  refine all_loop xs.length (fun k i => laws_eqIntS.l0 k xs xs i) (by omega) (fun k j hj => ?_) (fun k => ?_) xs.length 0 (by omega) (by omega)
  · simp [laws_eqIntS.l0, hj]
  · simp [laws_eqIntS.l0]
theorem sz_int (xs : List Int) (a : Int) (h0 : 0 ≤ a) (h1 : a ≤ 9223372036854775807) (hn : xs.length ≤ 9223372036854775807) : laws_szIntS.f xs a = some (if a - xs.length < 0 then -1 else a - xs.length) := by
  unfold laws_szIntS.f
  rw [w64 (x := a - (xs.length : Int)) (by omega) (by omega)]
  split <;> rfl
theorem sz_pat (w f t : Int) (ns al : List Int) (hn : ns.length ≤ 9223372036854775807) (ha : al.length ≤ 9223372036854775807) : ∃ r, laws_szPattern.f w f t ns al 1048576 = some r ∧ (r < 0 ∨ (ns.length ≤ 1048576 ∧ al.length ≤ 1048576)) := by
  unfold laws_szPattern.f
  rw [sz_int ns 1048576 (by omega) (by omega) hn]
  simp only [Option.bind_some]
  by_cases c : (1048576 : Int) - ns.length < 0
  · simp only [if_pos c, if_pos (show (-1 : Int) < 0 by decide)]
    exact ⟨_, rfl, Or.inl (by decide)⟩
  · simp only [if_neg c]
    rw [sz_int al _ (by omega) (by omega) ha]
    simp only [Option.bind_some]
    by_cases c2 : (1048576 : Int) - ns.length - al.length < 0
    · simp only [if_pos c2, if_pos (show (-1 : Int) < 0 by decide)]
      exact ⟨_, rfl, Or.inl (by decide)⟩
    · simp only [if_neg c2]
      exact ⟨_, rfl, Or.inr (by omega)⟩
theorem toPat_ev (w f t : Int) (ns al : List Int) (hn : ns.length ≤ 2000000) (ha : al.length ≤ 2000000) : Ev (fun k => laws_toPattern.f k w f t ns al) (w, f, t, ns, al) := by
  unfold laws_toPattern.f
  exact Ev.bind (toIntS_ev ns hn) (Ev.bind (toIntS_ev al ha) ev_some)
theorem eqPat_ev (w f t : Int) (ns al : List Int) (hn : ns.length ≤ 2000000) (ha : al.length ≤ 2000000) : Ev (fun k => laws_eqPattern.f k w f t ns al w f t ns al) true := by
  unfold laws_eqPattern.f
  simp only [if_true]
  refine Ev.bind (eqIntS_ev ns hn) ?_
  simp only [if_true]
  refine Ev.bind (eqIntS_ev al ha) ?_
  simp only [if_true]
  exact ev_some
theorem spec_has_loop (xs : List Int) (d : Int) (hn : xs.length ≤ 2000000) : ∀ (rest : List Int) (j : Nat), xs.drop j = rest → j ≤ xs.length → Ev (fun k => spec_l01Has.l0 k xs d (j : Int)) (decide (d ∈ rest)) := by
  intro rest
  induction rest with
  | nil =>
    intro j h hl
    have := drop_nil h
    refine Ev.step (fun k => by rw [spec_l01Has.l0]) ?_
    simp only [if_neg (show ¬ (j : Int) < (xs.length : Int) by omega)]
    simpa using ev_some
  | cons x rest ih =>
    intro j h hl
    obtain ⟨h1, h2, h3⟩ := drop_cons h
    refine Ev.step (fun k => by rw [spec_l01Has.l0]) ?_
    simp only [if_pos (show (j : Int) < (xs.length : Int) by omega), if_pos (show 0 ≤ (j : Int) by omega), rdI_at, h2]
    by_cases c : x = d
    · simp only [if_pos c]
      rw [decide_eq_true (by rw [c]; exact List.mem_cons_self ..)]
      exact ev_some
    · simp only [if_neg c, nat_w (show j ≤ 9223372036854775806 by omega)]
      have e : decide (d ∈ x :: rest) = decide (d ∈ rest) := decide_eq_decide.mpr (by rw [List.mem_cons]; exact ⟨fun h => h.resolve_left (fun e => c e.symm), Or.inr⟩)
      rw [e]
      exact ih (j + 1) h3 (by omega)
theorem spec_has_ev (xs : List Int) (d : Int) (hn : xs.length ≤ 2000000) : Ev (fun k => spec_l01Has.f k xs d) (decide (d ∈ xs)) := spec_has_loop xs d hn xs 0 rfl (by omega)
theorem impl_has_loop (xs : List Int) (d : Int) (hn : xs.length ≤ 2000000) : ∀ (rest : List Int) (j : Nat), xs.drop j = rest → j ≤ xs.length → Ev (fun k => impl_has.l0 k d xs (xs.length : Int) (j : Int)) (decide (d ∈ rest)) := by
  intro rest
  induction rest with
  | nil =>
    intro j h hl
    have := drop_nil h
    refine Ev.step (fun k => by rw [impl_has.l0]) ?_
    simp only [if_neg (show ¬ (j : Int) < (xs.length : Int) by omega)]
    simpa using ev_some
  | cons x rest ih =>
    intro j h hl
    obtain ⟨h1, h2, h3⟩ := drop_cons h
    refine Ev.step (fun k => by rw [impl_has.l0]) ?_
    simp only [if_pos (show (j : Int) < (xs.length : Int) by omega), if_pos (show 0 ≤ (j : Int) by omega), rdI_at, h2]
    by_cases c : x = d
    · simp only [if_pos c]
      rw [decide_eq_true (by rw [c]; exact List.mem_cons_self ..)]
      exact ev_some
    · simp only [if_neg c, nat_w (show j ≤ 9223372036854775806 by omega)]
      have e : decide (d ∈ x :: rest) = decide (d ∈ rest) := decide_eq_decide.mpr (by rw [List.mem_cons]; exact ⟨fun h => h.resolve_left (fun e => c e.symm), Or.inr⟩)
      rw [e]
      exact ih (j + 1) h3 (by omega)
theorem impl_has_ev (xs : List Int) (d : Int) (hn : xs.length ≤ 2000000) : Ev (fun k => impl_has.f k xs d) (decide (d ∈ xs)) := impl_has_loop xs d hn xs 0 rfl (by omega)
theorem patB_parts {w f t : Int} {ns al : List Int} (h : patB w f t ns al = true) : (0 ≤ w ∧ w ≤ 127) ∧ (0 ≤ f ∧ f ≤ t ∧ t ≤ 3650) ∧ (∀ d ∈ ns, (f ≤ d ∧ d ≤ t) ∧ wk w d = true) ∧ (∀ d ∈ al, (f ≤ d ∧ d ≤ t) ∧ wk w d = false) ∧ ns.length ≤ 20 ∧ al.length ≤ 20 := by
  simp only [patB, Bool.and_eq_true, decide_eq_true_eq] at h
  exact ⟨h.1.1.1, h.1.1.2, daysB_all ns 0 h.1.2.2, daysB_all al 0 h.2.2, h.1.2.1, h.2.1⟩
theorem impl_on_ev (w f t : Int) (ns al : List Int) (hn : ns.length ≤ 2000000) (ha : al.length ≤ 2000000) (h0 : 0 ≤ f) (d : Int) : Ev (fun k => impl_runsOn.f k w f t ns al d) (onB w f t ns al d) := by
  unfold impl_runsOn.f onB
  simp only [impl_in, Option.bind_some, decide_eq_true_eq]
  by_cases c : f ≤ d ∧ d ≤ t
  · simp only [if_pos c, decide_eq_true c, Bool.true_and, impl_week_ev w d (show 0 ≤ d by omega), Option.bind_some]
    by_cases c2 : wk w d = true
    · simp only [if_pos c2]
      exact Ev.bind (impl_has_ev ns d hn) ev_some
    · simp only [if_neg c2]
      exact Ev.bind (impl_has_ev al d ha) ev_some
  · simp only [if_neg c, decide_eq_false c, Bool.false_and]
    exact ev_some
theorem spec_on_ev (w f t : Int) (ns al : List Int) (hp : patB w f t ns al = true) (d : Int) : Ev (fun k => spec_l01On.f k w f t ns al d) (onB w f t ns al d) := by
  obtain ⟨_, h2, _, h4, hn, ha⟩ := patB_parts hp
  unfold spec_l01On.f onB
  simp only [spec_in, Option.bind_some, decide_eq_true_eq]
  by_cases c : f ≤ d ∧ d ≤ t
  · simp only [if_pos c, decide_eq_true c, Bool.true_and, spec_week_ev w d (show 0 ≤ d by omega), Option.bind_some]
    by_cases c2 : wk w d = true
    · simp only [if_pos c2]
      refine Ev.bind (spec_has_ev ns d (by omega)) ?_
      by_cases c3 : d ∈ ns
      · simp only [decide_eq_true c3, if_true, Bool.not_true]
        refine Ev.bind (spec_has_ev al d (by omega)) ?_
        rw [decide_eq_false (fun h => by have := (h4 d h).2; rw [c2] at this; cases this)]
        exact ev_some
      · simp only [decide_eq_false c3, Bool.false_eq_true, if_false, Bool.not_false]
        exact ev_some
    · simp only [if_neg c2]
      exact Ev.bind (spec_has_ev al d (by omega)) ev_some
  · simp only [if_neg c, decide_eq_false c, Bool.false_and]
    exact ev_some
def nextN (w f t : Int) (ns al : List Int) : Nat → Int → Int
  | 0, _ => -1
  | m + 1, d => if onB w f t ns al d = true then d else nextN w f t ns al m (d + 1)
def nextR (w f t : Int) (ns al : List Int) (a : Int) : Int := if patB w f t ns al = true then nextN w f t ns al (t - (mx a f) + 1).toNat (mx a f) else -1
theorem impl_next_loop (w f t : Int) (ns al : List Int) (hp : patB w f t ns al = true) : ∀ (m : Nat) (d : Int), m = (t - d + 1).toNat → f ≤ d → Ev (fun k => impl_NextRun.l0 k d w f t ns al) (nextN w f t ns al m d) := by
  obtain ⟨_, h2, _, _, hn, ha⟩ := patB_parts hp
  intro m
  induction m with
  | zero =>
    intro d hm hd
    refine Ev.step (fun k => by rw [impl_NextRun.l0]) ?_
    simp only [if_neg (show ¬ d ≤ t by omega), nextN]
    exact ev_some
  | succ m ih =>
    intro d hm hd
    refine Ev.step (fun k => by rw [impl_NextRun.l0]) ?_
    simp only [if_pos (show d ≤ t by omega)]
    refine Ev.bind (impl_on_ev w f t ns al (by omega) (by omega) h2.1 d) ?_
    rw [w64 (x := d + 1) (by omega) (by omega)]
    by_cases o : onB w f t ns al d = true
    · simp only [if_pos o, nextN]
      exact ev_some
    · simp only [if_neg o, nextN]
      exact ih (d + 1) (by omega) (by omega)
theorem spec_next_loop (w f t : Int) (ns al : List Int) (a : Int) (hp : patB w f t ns al = true) : ∀ (m : Nat) (d : Int), m = (t - d + 1).toNat → f ≤ d → a ≤ d → Ev (fun k => spec_NextRun.l0 k a d w f t ns al) (nextN w f t ns al m d) := by
  obtain ⟨_, h2, _, _, hn, ha⟩ := patB_parts hp
  intro m
  induction m with
  | zero =>
    intro d hm hd had
    refine Ev.step (fun k => by rw [spec_NextRun.l0]) ?_
    simp only [if_neg (show ¬ d ≤ t by omega), nextN]
    exact ev_some
  | succ m ih =>
    intro d hm hd had
    refine Ev.step (fun k => by rw [spec_NextRun.l0]) ?_
    simp only [if_pos (show d ≤ t by omega), if_pos (show d ≥ a from had)]
    refine Ev.bind (spec_on_ev w f t ns al hp d) ?_
    rw [w64 (x := d + 1) (by omega) (by omega)]
    by_cases o : onB w f t ns al d = true
    · simp only [if_pos o, nextN]
      exact ev_some
    · simp only [if_neg o, nextN]
      exact ih (d + 1) (by omega) (by omega) (by omega)
theorem spec_next_skip (w f t : Int) (ns al : List Int) (a : Int) (hp : patB w f t ns al = true) : ∀ (n : Nat) (d : Int), n = (a - d).toNat → f ≤ d → Ev (fun k => spec_NextRun.l0 k a d w f t ns al) (nextN w f t ns al (t - (mx a d) + 1).toNat (mx a d)) := by
  obtain ⟨_, h2, _, _, hn, ha⟩ := patB_parts hp
  intro n
  induction n with
  | zero =>
    intro d hm hd
    have e : mx a d = d := by unfold mx; split <;> omega
    rw [e]
    exact spec_next_loop w f t ns al a hp _ d rfl hd (by omega)
  | succ n ih =>
    intro d hm hd
    have e : mx a d = a := by unfold mx; split <;> omega
    by_cases c : d ≤ t
    · refine Ev.step (fun k => by rw [spec_NextRun.l0]) ?_
      simp only [if_pos c, if_neg (show ¬ d ≥ a by omega)]
      rw [w64 (x := d + 1) (by omega) (by omega)]
      have e2 : mx a (d + 1) = a := by unfold mx; split <;> omega
      have := ih (d + 1) (by omega) (by omega)
      rw [e2] at this
      rw [e]
      exact this
    · refine Ev.step (fun k => by rw [spec_NextRun.l0]) ?_
      simp only [if_neg c]
      rw [e, show (t - a + 1).toNat = 0 by omega]
      exact ev_some
theorem spec_next_ev (w f t : Int) (ns al : List Int) (a : Int) (hn : ns.length ≤ 2000000) (ha : al.length ≤ 2000000) : Ev (fun k => spec_NextRun.f k w f t ns al a) (nextR w f t ns al a) := by
  unfold spec_NextRun.f nextR
  refine Ev.bind (spec_pat_ev w f t ns al hn ha) ?_
  by_cases hp : patB w f t ns al = true
  · simp only [if_pos hp]
    exact spec_next_skip w f t ns al a hp _ f rfl (by omega)
  · simp only [if_neg hp]; exact ev_some
theorem impl_next_ev (w f t : Int) (ns al : List Int) (a : Int) (hn : ns.length ≤ 2000000) (ha : al.length ≤ 2000000) : Ev (fun k => impl_NextRun.f k w f t ns al a) (nextR w f t ns al a) := by
  unfold impl_NextRun.f nextR
  refine Ev.bind (impl_pat_ev w f t ns al hn ha) ?_
  by_cases hp : patB w f t ns al = true
  · simp only [if_pos hp]
    exact impl_next_loop w f t ns al hp _ (mx a f) rfl (by unfold mx; split <;> omega)
  · simp only [if_neg hp]; exact ev_some
theorem FnExactNextRun : laws_FnExactNextRun.Pure := by
  intro w f t ns al a _ _ _ h3 h4 _
  refine Ev.rounds ?_
  unfold laws_FnExactNextRun.f
  have hm : maxLen ≤ 9223372036854775807 := by decide
  obtain ⟨r, hr, hc⟩ := sz_pat w f t ns al (by omega) (by omega)
  simp only [hr, Option.bind_some]
  by_cases c : r < 0
  · simp only [if_pos c]; exact ev_some
  · simp only [if_neg c]
    have hn : ns.length ≤ 2000000 := by omega
    have ha : al.length ≤ 2000000 := by omega
    refine Ev.bind (toPat_ev w f t ns al hn ha) (Ev.bind (spec_next_ev w f t ns al a hn ha) (Ev.bind (toPat_ev w f t ns al hn ha) (Ev.bind (impl_next_ev w f t ns al a hn ha) ?_)))
    simp only [if_true]
    refine Ev.bind (toPat_ev w f t ns al hn ha) (Ev.bind (eqPat_ev w f t ns al hn ha) ?_)
    simp only [if_true]
    exact ev_some

end Go.Proofs.Ytgjhlkjfdlkndaa.Pure
