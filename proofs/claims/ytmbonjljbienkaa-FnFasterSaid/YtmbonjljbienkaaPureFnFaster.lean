/- On a drawn course a stronger motor is never later, nor is a higher limit; a stop never makes it earlier; passing ends with the time it takes. -/
import Derived.Test.YtmbonjljbienkaaRowFnFaster
namespace Go.Proofs.Ytmbonjljbienkaa.Pure
open Go.RowKit Go.Proofs.Ytmbonjljbienkaa.PFnFaster Go.Proofs.YtmbonjljbienkaaW.PrintWords Go.Proofs.YtmbonjljbienkaaW.PrintLast Go.Proofs.YtmbonjljbienkaaW.PrintMore
set_option linter.unusedVariables false
set_option linter.unusedSimpArgs false
theorem w64 {x : Int} (h0 : -9223372036854775808 ≤ x) (h1 : x ≤ 9223372036854775807) : wrap64 x = x := by unfold wrap64; omega
theorem ev_k {α : Type} {g : Nat → Option α} {r : α} (h : ∀ k, g k = some r) : Ev g r := ⟨0, fun k _ => h k⟩
theorem ev_some {α : Type} {r : α} : Ev (fun _ => some r) r := Ev.now r
theorem wf_i64 {x : Int} (h : (Lit.int .i64 x).wf = true) : -9223372036854775808 ≤ x ∧ x ≤ 9223372036854775807 := by
  simp only [Lit.wf, Bool.and_eq_true, decide_eq_true_eq] at h
  have h1 : IntKind.min .i64 = -9223372036854775808 := by decide
  have h2 : IntKind.max .i64 = 9223372036854775807 := by decide
  omega
theorem wf_u8 {x : Int} (h : (Lit.int .u8 x).wf = true) : 0 ≤ x ∧ x ≤ 255 := by
  simp only [Lit.wf, Bool.and_eq_true, decide_eq_true_eq] at h
  have h1 : IntKind.min .u8 = 0 := by decide
  have h2 : IntKind.max .u8 = 255 := by decide
  omega
/-! Loops over lists, whatever the elements. -/
theorem nat_w {j : Nat} (h : j ≤ 9223372036854775806) : wrap64 ((j : Int) + 1) = ((j + 1 : Nat) : Int) := by rw [w64 (by omega) (by omega)]; omega
theorem set_take {α : Type} {acc ys : List α} {j : Nat} (hl : acc.length = ys.length) (ht : acc.take j = ys.take j) (hj : j < ys.length) {v : α} (hv : ys[j]? = some v) : (acc.set j v).take (j + 1) = ys.take (j + 1) := by
  apply List.ext_getElem?
  intro i
  by_cases hi : i < j + 1
  · rw [List.getElem?_take_of_lt hi, List.getElem?_take_of_lt hi]
    by_cases e : i = j
    · subst e
      rw [List.getElem?_set_self (by omega), hv]
    · rw [List.getElem?_set_ne (by omega)]
      have h1 := congrArg (fun l => l[i]?) ht
      simp only [List.getElem?_take_of_lt (show i < j by omega)] at h1
      exact h1
  · rw [List.getElem?_eq_none (by simp; omega), List.getElem?_eq_none (by simp; omega)]
theorem getD_some {α : Type} {xs : List α} {j : Nat} (h : j < xs.length) (d : α) : xs[j]? = some (xs.getD j d) := by
  rw [List.getD_eq_getElem?_getD, List.getElem?_eq_getElem h]; rfl
/-- A loop that writes g of each element of xs into a row of the same length. -/
theorem copy_loop {α β : Type} (g : β → α) (d : β) (xs : List β) (L : Nat → List α → Int → Option (List α)) (hn : xs.length ≤ 9223372036854775806)
    (hs : ∀ k acc (j : Nat), L (k + 1) acc (j : Int) = if j < xs.length then (if j < acc.length then L k (acc.set j (g (xs.getD j d))) (wrap64 ((j : Int) + 1)) else none) else some acc)
    (m : Nat) : ∀ (j : Nat) (acc : List α), xs.length - j = m → j ≤ xs.length → acc.length = xs.length → acc.take j = (xs.map g).take j → Ev (fun k => L k acc (j : Int)) (xs.map g) := by
  induction m with
  | zero =>
    intro j acc h0 h1 h2 h3
    refine Ev.step (fun k => hs k acc j) ?_
    simp only [if_neg (show ¬ j < xs.length by omega)]
    have e : acc = xs.map g := by
      have h4 : acc.take j = acc := List.take_of_length_le (by omega)
      have h5 : (xs.map g).take j = xs.map g := List.take_of_length_le (by simp; omega)
      rw [← h4, h3, h5]
    rw [e]
    exact ev_some
  | succ m ih =>
    intro j acc h0 h1 h2 h3
    refine Ev.step (fun k => hs k acc j) ?_
    simp only [if_pos (show j < xs.length by omega), if_pos (show j < acc.length by omega)]
    rw [nat_w (by omega)]
    refine ih (j + 1) _ (by omega) (by omega) (by simpa using h2) ?_
    refine set_take (by simpa using h2) h3 (by simp; omega) ?_
    rw [List.getElem?_map, getD_some (show j < xs.length by omega) d]
    rfl
/-- A loop that asks each index, and goes on where the answer is yes. -/
theorem all_loop (n : Nat) (L : Nat → Int → Option Bool) (hn : n ≤ 9223372036854775806) (hs : ∀ k (j : Nat), j < n → L (k + 1) (j : Int) = L k (wrap64 ((j : Int) + 1))) (he : ∀ k, L (k + 1) (n : Int) = some true)
    (m : Nat) : ∀ j : Nat, n - j = m → j ≤ n → Ev (fun k => L k (j : Int)) true := by
  induction m with
  | zero =>
    intro j h0 h1
    obtain rfl : j = n := by omega
    exact Ev.step (fun k => he k) ev_some
  | succ m ih =>
    intro j h0 h1
    refine Ev.step (fun k => hs k j (by omega)) ?_
    rw [nat_w (by omega)]
    exact ih (j + 1) (by omega) (by omega)
/-- The elements one behind the other, each turned by f with a number that goes on by c. -/
def marked {α : Type} (c : Int) (f : Int → α → α) : Int → List α → List α
  | _, [] => []
  | s, x :: xs => f s x :: marked c f (s + c) xs
theorem marked_length {α : Type} (c : Int) (f : Int → α → α) : ∀ (s : Int) (xs : List α), (marked c f s xs).length = xs.length
  | _, [] => rfl
  | s, x :: xs => by simp [marked, marked_length c f (s + c) xs]
theorem marked_at {α : Type} (c : Int) (f : Int → α → α) : ∀ (s : Int) (xs : List α) (j : Nat) (d : α), j < xs.length → (marked c f s xs)[j]? = some (f (s + c * j) (xs.getD j d))
  | _, [], j, d, h => by simp at h
  | s, x :: xs, 0, d, _ => by simp [marked]
  | s, x :: xs, j + 1, d, h => by
    have := marked_at c f (s + c) xs j d (by simpa using h)
    simp only [marked, List.getElem?_cons_succ, List.getD_cons_succ]
    rw [this]
    congr 2
    rw [Int.natCast_succ, Int.mul_add]; omega
/-- A loop that marks a row. -/
theorem mark_loop {α : Type} (c : Nat) (hc : c ≤ 8) (f : Int → α → α) (d : α) (xs : List α) (L : Nat → List α → Int → Int → Option (Int × List α)) (hn : xs.length ≤ 2000000) (s0 : Nat) (hs0 : s0 ≤ 20000000)
    (hs : ∀ k acc (s : Nat) (j : Nat), acc.length = xs.length → s ≤ 40000000 → j < xs.length → L (k + 1) acc (s : Int) (j : Int) = L k (acc.set j (f (s : Int) (acc.getD j d))) ((s + c : Nat) : Int) (wrap64 ((j : Int) + 1)))
    (he : ∀ k acc (s : Int), acc.length = xs.length → L (k + 1) acc s (xs.length : Int) = some (s, acc))
    (m : Nat) : ∀ (j : Nat) (acc : List α), xs.length - j = m → j ≤ xs.length → acc.length = xs.length → acc.take j = (marked c f s0 xs).take j → acc.drop j = xs.drop j → Ev (fun k => L k acc ((s0 + c * j : Nat) : Int) (j : Int)) (((s0 + c * xs.length : Nat) : Int), marked c f s0 xs) := by
  induction m with
  | zero =>
    intro j acc h0 h1 h2 h3 _
    obtain rfl : j = xs.length := by omega
    refine Ev.step (fun k => he k acc _ h2) ?_
    have e : acc = marked c f s0 xs := by
      have h4 : acc.take xs.length = acc := List.take_of_length_le (by omega)
      have h5 : (marked c f s0 xs).take xs.length = marked c f s0 xs := List.take_of_length_le (by rw [marked_length]; omega)
      rw [← h4, h3, h5]
    rw [e]
    exact ev_some
  | succ m ih =>
    intro j acc h0 h1 h2 h3 h4
    have hb : c * j ≤ 8 * 2000000 := Nat.mul_le_mul hc (by omega)
    refine Ev.step (fun k => hs k acc _ j h2 (by omega) (by omega)) ?_
    rw [nat_w (by omega), show s0 + c * j + c = s0 + c * (j + 1) by rw [Nat.mul_add]; omega]
    have hg : acc.getD j d = xs.getD j d := by
      have h5 := congrArg (fun l => l[0]?) h4
      simp only [List.getElem?_drop, Nat.add_zero] at h5
      rw [List.getD_eq_getElem?_getD, List.getD_eq_getElem?_getD, h5]
    refine ih (j + 1) _ (by omega) (by omega) (by simpa using h2) ?_ ?_
    · refine set_take (by rw [marked_length]; exact h2) h3 (by rw [marked_length]; omega) ?_
      rw [marked_at c f s0 xs j d (by omega), hg]
      simp
    · rw [List.drop_set_of_lt (by omega), ← List.drop_drop, h4, List.drop_drop]
/-- A loop that looks whether a row is marked so. -/
theorem held_loop (c : Nat) (hc : c ≤ 8) (n : Nat) (L : Nat → Int → Int → Option Int) (hn : n ≤ 2000000) (s0 : Nat) (hs0 : s0 ≤ 20000000)
    (hs : ∀ k (j : Nat), j < n → L (k + 1) ((s0 + c * j : Nat) : Int) (j : Int) = L k ((s0 + c * j + c : Nat) : Int) (wrap64 ((j : Int) + 1)))
    (he : ∀ k (s : Int), L (k + 1) s (n : Int) = some s)
    (m : Nat) : ∀ j : Nat, n - j = m → j ≤ n → Ev (fun k => L k ((s0 + c * j : Nat) : Int) (j : Int)) (((s0 + c * n : Nat) : Int)) := by
  induction m with
  | zero =>
    intro j h0 h1
    obtain rfl : j = n := by omega
    exact Ev.step (fun k => he k _) ev_some
  | succ m ih =>
    intro j h0 h1
    refine Ev.step (fun k => hs k j (by omega)) ?_
    rw [nat_w (by omega), show s0 + c * j + c = s0 + c * (j + 1) by rw [Nat.mul_add]; omega]
    exact ih (j + 1) (by omega) (by omega)
theorem drop_cons {α : Type} {xs : List α} {j : Nat} {t : α} {rest : List α} (h : xs.drop j = t :: rest) : j < xs.length ∧ (∀ d, xs.getD j d = t) ∧ xs.drop (j + 1) = rest := by
  have hj : j < xs.length := by
    rcases Nat.lt_or_ge j xs.length with h1 | h1
    · exact h1
    · rw [List.drop_of_length_le h1] at h; cases h
  rw [List.drop_eq_getElem_cons hj] at h
  injection h with h1 h2
  exact ⟨hj, fun d => by rw [List.getD_eq_getElem?_getD, List.getElem?_eq_getElem hj, ← h1]; rfl, h2⟩
theorem drop_nil {α : Type} {xs : List α} {j : Nat} (h : xs.drop j = []) : xs.length ≤ j := by simpa using h
theorem rdI_at (xs : List Int) (j : Nat) : rd xs (j : Int) = xs.getD j 0 := by unfold rd; rw [Int.toNat_natCast]
theorem rdB_at (xs : List Bool) (j : Nat) : rdOf false xs (j : Int) = xs.getD j false := by unfold rdOf; rw [Int.toNat_natCast]
/-- The square at border k that the rules of that border alone allow. -/
def capF (T : Int) (c : List Int) (k : Nat) : Int := if k = 0 ∨ k = c.length then 0 else (mn (mn T (c.getD (k - 1) 0)) (c.getD k 0)) * (mn (mn T (c.getD (k - 1) 0)) (c.getD k 0))
/-- From the left, and from the right. -/
def fwF (U : Int) (cap : Nat → Int) : Nat → Int
  | 0 => cap 0
  | k + 1 => mn (cap (k + 1)) (fwF U cap k + U)
def bwF (D : Int) (f : Nat → Int) (n : Nat) : Nat → Int
  | 0 => f n
  | m + 1 => mn (f (n - (m + 1))) (bwF D f n m + D)
/-- The square at border k. -/
def sqF (U D : Int) (cap : Nat → Int) (n k : Nat) : Int := bwF D (fwF U cap) n (n - k)
/-- What border j allows at border k. -/
def cand (U D : Int) (cap : Nat → Int) (k j : Nat) : Int := if j < k then cap j + U * ((k : Int) - (j : Int)) else cap j + D * ((j : Int) - (k : Int))
theorem mn_le (a b : Int) : mn a b ≤ a ∧ mn a b ≤ b ∧ (mn a b = a ∨ mn a b = b) := by unfold mn; split <;> omega
theorem fw_le (U : Int) (cap : Nat → Int) : ∀ k j, j ≤ k → fwF U cap k ≤ cap j + U * ((k : Int) - (j : Int))
  | 0, j, h => by
    obtain rfl : j = 0 := by omega
    simp [fwF]
  | k + 1, j, h => by
    have hm := mn_le (cap (k + 1)) (fwF U cap k + U)
    simp only [fwF]
    by_cases e : j = k + 1
    · subst e; simp; omega
    · have ih := fw_le U cap k j (by omega)
      have : U * (((k + 1 : Nat) : Int) - (j : Int)) = U * ((k : Int) - (j : Int)) + U := by rw [show ((k + 1 : Nat) : Int) - (j : Int) = ((k : Int) - (j : Int)) + 1 by omega, Int.mul_add, Int.mul_one]
      omega
theorem fw_eq (U : Int) (cap : Nat → Int) : ∀ k, ∃ j, j ≤ k ∧ fwF U cap k = cap j + U * ((k : Int) - (j : Int))
  | 0 => ⟨0, by omega, by simp [fwF]⟩
  | k + 1 => by
    rcases (mn_le (cap (k + 1)) (fwF U cap k + U)).2.2 with h | h
    · exact ⟨k + 1, by omega, by simp only [fwF, h]; simp⟩
    · obtain ⟨j, hj, e⟩ := fw_eq U cap k
      refine ⟨j, by omega, ?_⟩
      simp only [fwF]
      rw [h, e, show ((k + 1 : Nat) : Int) - (j : Int) = ((k : Int) - (j : Int)) + 1 by omega, Int.mul_add, Int.mul_one]
      omega
theorem bw_le (D : Int) (f : Nat → Int) (n : Nat) : ∀ m j, m ≤ n → n - m ≤ j → j ≤ n → bwF D f n m ≤ f j + D * ((j : Int) - ((n - m : Nat) : Int))
  | 0, j, _, h1, h2 => by
    obtain rfl : j = n := by omega
    simp [bwF]
  | m + 1, j, hm, h1, h2 => by
    have hmn := mn_le (f (n - (m + 1))) (bwF D f n m + D)
    simp only [bwF]
    by_cases e : j = n - (m + 1)
    · subst e; simp; omega
    · have ih := bw_le D f n m j (by omega) (by omega) h2
      have : D * ((j : Int) - ((n - (m + 1) : Nat) : Int)) = D * ((j : Int) - ((n - m : Nat) : Int)) + D := by rw [show (j : Int) - ((n - (m + 1) : Nat) : Int) = ((j : Int) - ((n - m : Nat) : Int)) + 1 by omega, Int.mul_add, Int.mul_one]
      omega
theorem bw_eq (D : Int) (f : Nat → Int) (n : Nat) : ∀ m, m ≤ n → ∃ j, n - m ≤ j ∧ j ≤ n ∧ bwF D f n m = f j + D * ((j : Int) - ((n - m : Nat) : Int))
  | 0, _ => ⟨n, by omega, by omega, by simp [bwF]⟩
  | m + 1, hm => by
    rcases (mn_le (f (n - (m + 1))) (bwF D f n m + D)).2.2 with h | h
    · exact ⟨n - (m + 1), by omega, by omega, by simp only [bwF, h]; simp⟩
    · obtain ⟨j, h1, h2, e⟩ := bw_eq D f n m (by omega)
      refine ⟨j, by omega, h2, ?_⟩
      simp only [bwF]
      rw [h, e, show (j : Int) - ((n - (m + 1) : Nat) : Int) = ((j : Int) - ((n - m : Nat) : Int)) + 1 by omega, Int.mul_add, Int.mul_one]
      omega
theorem mul_le_of {a x y : Int} (h0 : 0 ≤ a) (h : x ≤ y) : a * x ≤ a * y := Int.mul_le_mul_of_nonneg_left h h0
theorem sq_le_cand {U D : Int} {cap : Nat → Int} {n k : Nat} (hk : k ≤ n) (j : Nat) (hj : j ≤ n) : sqF U D cap n k ≤ cand U D cap k j := by
  unfold sqF cand
  by_cases h : j < k
  · rw [if_pos h]
    have h1 := bw_le D (fwF U cap) n (n - k) k (by omega) (by omega) hk
    have h2 := fw_le U cap k j (by omega)
    rw [show n - (n - k) = k by omega] at h1
    simp at h1
    omega
  · rw [if_neg h]
    have h1 := bw_le D (fwF U cap) n (n - k) j (by omega) (by omega) hj
    have h2 := fw_le U cap j j (by omega)
    rw [show n - (n - k) = k by omega] at h1
    simp at h2
    omega
theorem sq_eq_cand {U D : Int} (hU : 0 ≤ U) (hD : 0 ≤ D) {cap : Nat → Int} {n k : Nat} (hk : k ≤ n) : ∃ j, j ≤ n ∧ sqF U D cap n k = cand U D cap k j := by
  obtain ⟨j, h1, h2, e⟩ := bw_eq D (fwF U cap) n (n - k) (by omega)
  obtain ⟨i, h3, e2⟩ := fw_eq U cap j
  rw [show n - (n - k) = k by omega] at h1 e
  refine ⟨i, by omega, Int.le_antisymm (sq_le_cand hk i (by omega)) ?_⟩
  have e3 : sqF U D cap n k = cap i + U * ((j : Int) - (i : Int)) + D * ((j : Int) - (k : Int)) := by unfold sqF; rw [e, e2]
  rw [e3]
  unfold cand
  by_cases h : i < k
  · rw [if_pos h]
    have h5 := mul_le_of hU (show (k : Int) - (i : Int) ≤ (j : Int) - (i : Int) by omega)
    have h6 : 0 ≤ D * ((j : Int) - (k : Int)) := Int.mul_nonneg hD (by omega)
    omega
  · rw [if_neg h]
    have h5 := mul_le_of hD (show (i : Int) - (k : Int) ≤ (j : Int) - (k : Int) by omega)
    have h6 : 0 ≤ U * ((j : Int) - (i : Int)) := Int.mul_nonneg hU (by omega)
    omega
theorem cand_self (U D : Int) (cap : Nat → Int) (k : Nat) : cand U D cap k k = cap k := by unfold cand; rw [if_neg (by omega)]; simp
/-- Whatever is no greater than all that is allowed, and one of them, is it. -/
theorem sq_unique {U D : Int} (hU : 0 ≤ U) (hD : 0 ≤ D) {cap : Nat → Int} {n k : Nat} (hk : k ≤ n) {a : Int} (h1 : ∀ j, j ≤ n → a ≤ cand U D cap k j) (h2 : ∃ j, j ≤ n ∧ a = cand U D cap k j) : a = sqF U D cap n k := by
  obtain ⟨j, hj, e⟩ := sq_eq_cand hU hD hk (cap := cap)
  obtain ⟨i, hi, e2⟩ := h2
  have h3 := h1 j hj
  have h4 := sq_le_cand hk i hi (U := U) (D := D) (cap := cap)
  omega
/-- More is allowed: no square is less. -/
theorem sq_mono {U D U' D' : Int} {cap cap' : Nat → Int} {n k : Nat} (hU : 0 ≤ U') (hD : 0 ≤ D') (h1 : U ≤ U') (h2 : D ≤ D') (hc : ∀ j, j ≤ n → cap j ≤ cap' j) (hk : k ≤ n) : sqF U D cap n k ≤ sqF U' D' cap' n k := by
  obtain ⟨j, hj, e⟩ := sq_eq_cand hU hD hk (cap := cap')
  rw [e]
  have h3 := sq_le_cand hk j hj (U := U) (D := D) (cap := cap)
  have h4 := hc j hj
  unfold cand at *
  by_cases h : j < k
  · rw [if_pos h] at *
    have := Int.mul_le_mul_of_nonneg_right h1 (show 0 ≤ (k : Int) - (j : Int) by omega)
    omega
  · rw [if_neg h] at *
    have := Int.mul_le_mul_of_nonneg_right h2 (show 0 ≤ (j : Int) - (k : Int) by omega)
    omega
/-- A right motor and course. -/
def motB (U D T : Int) : Bool := decide (1 ≤ U ∧ U ≤ 200) && decide (1 ≤ D ∧ D ≤ 400) && decide (1 ≤ T ∧ T ≤ 90)
def crsB (c : List Int) : Bool := decide (1 ≤ c.length ∧ c.length ≤ 200) && c.all (fun x => decide (1 ≤ x ∧ x ≤ 90))
theorem motB_spec {U D T : Int} (h : motB U D T = true) : (1 ≤ U ∧ U ≤ 200) ∧ (1 ≤ D ∧ D ≤ 400) ∧ (1 ≤ T ∧ T ≤ 90) := by
  unfold motB at h
  simp only [Bool.and_eq_true, decide_eq_true_eq] at h
  exact ⟨h.1.1, h.1.2, h.2⟩
theorem crsB_spec {c : List Int} (h : crsB c = true) : (1 ≤ c.length ∧ c.length ≤ 200) ∧ ∀ x ∈ c, 1 ≤ x ∧ x ≤ 90 := by
  unfold crsB at h
  simp only [Bool.and_eq_true, decide_eq_true_eq, List.all_eq_true] at h
  exact h
theorem getD_in {c : List Int} (h : ∀ x ∈ c, 1 ≤ x ∧ x ≤ 90) {j : Nat} (hj : j < c.length) : 1 ≤ c.getD j 0 ∧ c.getD j 0 ≤ 90 := by
  rw [List.getD_eq_getElem?_getD, List.getElem?_eq_getElem hj]
  exact h _ (List.getElem_mem _)
theorem sqr_bd {v : Int} (h : 1 ≤ v ∧ v ≤ 90) : 1 ≤ v * v ∧ v * v ≤ 8100 := by
  have h1 : v * v ≤ 90 * 90 := Int.mul_le_mul h.2 h.2 (by omega) (by omega)
  have h2 : 1 * 1 ≤ v * v := Int.mul_le_mul h.1 h.1 (by omega) (by omega)
  omega
theorem cap_top {T : Int} (hT : 1 ≤ T ∧ T ≤ 90) {c : List Int} (hc : ∀ x ∈ c, 1 ≤ x ∧ x ≤ 90) {k : Nat} (h0 : 1 ≤ k) (hk : k < c.length) : 1 ≤ mn (mn T (c.getD (k - 1) 0)) (c.getD k 0) ∧ mn (mn T (c.getD (k - 1) 0)) (c.getD k 0) ≤ 90 := by
  have h1 := getD_in hc (show k - 1 < c.length by omega)
  have h2 := getD_in hc hk
  have h3 := mn_le T (c.getD (k - 1) 0)
  have h4 := mn_le (mn T (c.getD (k - 1) 0)) (c.getD k 0)
  omega
theorem capF_bd {T : Int} (hT : 1 ≤ T ∧ T ≤ 90) {c : List Int} (hc : ∀ x ∈ c, 1 ≤ x ∧ x ≤ 90) (k : Nat) (hk : k ≤ c.length) : 0 ≤ capF T c k ∧ capF T c k ≤ 8100 := by
  unfold capF
  split
  · omega
  · have := sqr_bd (cap_top hT hc (show 1 ≤ k by omega) (show k < c.length by omega))
    omega
theorem sqF_bd {U D T : Int} (hU : 0 ≤ U) (hD : 0 ≤ D) (hT : 1 ≤ T ∧ T ≤ 90) {c : List Int} (hc : ∀ x ∈ c, 1 ≤ x ∧ x ≤ 90) (k : Nat) (hk : k ≤ c.length) : 0 ≤ sqF U D (capF T c) c.length k ∧ sqF U D (capF T c) c.length k ≤ 8100 := by
  have h1 := sq_le_cand hk k hk (U := U) (D := D) (cap := capF T c)
  rw [cand_self] at h1
  have h2 := capF_bd hT hc k hk
  refine ⟨?_, by omega⟩
  obtain ⟨j, hj, e⟩ := sq_eq_cand hU hD hk (cap := capF T c)
  rw [e]
  have h3 := capF_bd hT hc j hj
  unfold cand
  by_cases h : j < k
  · rw [if_pos h]
    have := Int.mul_nonneg hU (show 0 ≤ (k : Int) - (j : Int) by omega)
    omega
  · rw [if_neg h]
    have := Int.mul_nonneg hD (show 0 ≤ (j : Int) - (k : Int) by omega)
    omega
theorem sqF_ends {U D T : Int} (hU : 0 ≤ U) (hD : 0 ≤ D) (hT : 1 ≤ T ∧ T ≤ 90) {c : List Int} (hc : ∀ x ∈ c, 1 ≤ x ∧ x ≤ 90) : sqF U D (capF T c) c.length 0 = 0 ∧ sqF U D (capF T c) c.length c.length = 0 := by
  have a := sqF_bd hU hD hT hc 0 (by omega)
  have b := sqF_bd hU hD hT hc c.length (by omega)
  have a1 := sq_le_cand (show 0 ≤ c.length by omega) 0 (by omega) (U := U) (D := D) (cap := capF T c)
  have b1 := sq_le_cand (show c.length ≤ c.length by omega) c.length (by omega) (U := U) (D := D) (cap := capF T c)
  rw [cand_self] at a1 b1
  have e1 : capF T c 0 = 0 := by unfold capF; rw [if_pos (Or.inl rfl)]
  have e2 : capF T c c.length = 0 := by unfold capF; rw [if_pos (Or.inr rfl)]
  omega
/-- All squares, one for each border. -/
def sqL (U D T : Int) (c : List Int) : List Int := (List.range (c.length + 1)).map (sqF U D (capF T c) c.length)
def sqR (U D T : Int) (c : List Int) : List Int := if motB U D T = true ∧ crsB c = true then sqL U D T c else []
theorem sqL_length (U D T : Int) (c : List Int) : (sqL U D T c).length = c.length + 1 := by simp [sqL]
theorem map_at (f : Nat → Int) (n k : Nat) (h : k < n) : ((List.range n).map f).getD k 0 = f k := by
  rw [List.getD_eq_getElem?_getD, List.getElem?_map, List.getElem?_range h]; rfl
theorem map_set (n : Nat) (f : Nat → Int) (p : Nat) (v : Int) : ((List.range n).map f).set p v = (List.range n).map (fun i => if i = p then v else f i) := by
  apply List.ext_getElem?
  intro i
  by_cases hi : i < n
  · by_cases e : i = p
    · subst e
      rw [List.getElem?_set_self (by simpa using hi)]
      simp [hi]
    · rw [List.getElem?_set_ne (by omega)]
      simp [hi, e]
  · rw [List.getElem?_eq_none (by simp; omega), List.getElem?_eq_none (by simp; omega)]
theorem map_same (n : Nat) (f g : Nat → Int) (h : ∀ i, i < n → f i = g i) : (List.range n).map f = (List.range n).map g := List.map_congr_left fun i hi => h i (by simpa using hi)
/-- The greatest number whose square is at most n. -/
def rootN : Nat → Nat
  | 0 => 0
  | n + 1 => if (rootN n + 1) * (rootN n + 1) ≤ n + 1 then rootN n + 1 else rootN n
theorem rootN_spec (n : Nat) : rootN n * rootN n ≤ n ∧ n < (rootN n + 1) * (rootN n + 1) := by
  induction n with
  | zero => simp [rootN]
  | succ n ih =>
    unfold rootN
    split
    · refine ⟨by assumption, ?_⟩
      have : (rootN n + 1 + 1) * (rootN n + 1 + 1) = (rootN n + 1) * (rootN n + 1) + 2 * (rootN n + 1) + 1 := by
        rw [Nat.add_mul (rootN n + 1) 1, Nat.mul_add]; omega
      omega
    · omega
def root (x : Int) : Int := (rootN x.toNat : Int)
theorem root_nonneg (x : Int) : 0 ≤ root x := by unfold root; omega
theorem root_neg {x : Int} (h : x ≤ 0) : root x = 0 := by
  unfold root
  have : x.toNat = 0 := by omega
  rw [this]; rfl
theorem root_spec {x : Int} (h : 0 ≤ x) : root x * root x ≤ x ∧ x < (root x + 1) * (root x + 1) := by
  have h1 := rootN_spec x.toNat
  unfold root
  have e : ((x.toNat : Nat) : Int) = x := by omega
  constructor
  · have := Int.ofNat_le.mpr h1.1
    rw [e] at this
    simpa using this
  · have := Int.ofNat_lt.mpr h1.2
    rw [e] at this
    simpa using this
theorem sq_le {a b : Int} (h0 : 0 ≤ a) (h : a ≤ b) : a * a ≤ b * b := Int.mul_le_mul h h h0 (by omega)
theorem sq_lt {a b : Int} (h0 : 0 ≤ b) (h : a * a < b * b) : a < b := by
  rcases Int.lt_or_le a b with h1 | h1
  · exact h1
  · have := sq_le h0 h1
    omega
theorem root_eq {x r : Int} (h0 : 0 ≤ r) (h1 : r * r ≤ x) (h2 : x < (r + 1) * (r + 1)) : root x = r := by
  have hx : 0 ≤ x := by have := Int.mul_nonneg h0 h0; omega
  have h3 := root_spec hx
  have h4 := root_nonneg x
  have h5 : root x < r + 1 := sq_lt (by omega) (by omega)
  have h6 : r < root x + 1 := sq_lt (by omega) (by omega)
  omega
theorem root_mono {x y : Int} (h : x ≤ y) : root x ≤ root y := by
  rcases Int.lt_or_le x 0 with h1 | h1
  · rw [root_neg (by omega)]; exact root_nonneg y
  · have h2 := root_spec h1
    have h3 := root_spec (show 0 ≤ y by omega)
    have h4 := root_nonneg y
    have : root x < root y + 1 := sq_lt (by omega) (by omega)
    omega
theorem root_le {x : Int} (h : x ≤ 9223372036854775807) : root x ≤ 3037000499 := by
  rcases Int.lt_or_le x 0 with h1 | h1
  · rw [root_neg (by omega)]; omega
  · have h2 := root_spec h1
    have : root x < 3037000499 + 1 := sq_lt (by omega) (by omega)
    omega
/-- How long a cell takes, from the squares at its borders. -/
def cellU (a b : Int) : Int := if root (100 * a) + root (100 * b) < 20 then 20 else root (100 * a) + root (100 * b)
def cellT (a b : Int) : Int := (10000 + cellU a b - 1) / cellU a b
theorem root_8100 {a : Int} (h : a ≤ 8100) : root (100 * a) ≤ 900 := by
  have : root 810000 = 900 := root_eq (by omega) (by omega) (by omega)
  rw [← this]
  exact root_mono (by omega)
theorem cellU_bd {a b : Int} (ha : a ≤ 8100) (hb : b ≤ 8100) : 20 ≤ cellU a b ∧ cellU a b ≤ 1800 := by
  have h1 := root_8100 ha
  have h2 := root_8100 hb
  unfold cellU
  split <;> omega
theorem cellT_bd {a b : Int} (ha : a ≤ 8100) (hb : b ≤ 8100) : 0 ≤ cellT a b ∧ cellT a b ≤ 500 := by
  have h := cellU_bd ha hb
  unfold cellT
  constructor
  · exact Int.ediv_nonneg (by omega) (by omega)
  · have h1 : (10000 + cellU a b - 1) / cellU a b < 501 := Int.ediv_lt_of_lt_mul (by omega) (by omega)
    omega
/-- When border k is passed. -/
def tF (S : Nat → Int) : Nat → Int
  | 0 => 0
  | k + 1 => tF S k + cellT (S k) (S (k + 1))
theorem tF_bd (S : Nat → Int) (n : Nat) (hS : ∀ i, i ≤ n → 0 ≤ S i ∧ S i ≤ 8100) : ∀ k, k ≤ n → 0 ≤ tF S k ∧ tF S k ≤ 500 * (k : Int)
  | 0, _ => by simp [tF]
  | k + 1, h => by
    have ih := tF_bd S n hS k (by omega)
    have hc := cellT_bd (hS k (by omega)).2 (hS (k + 1) h).2
    simp only [tF]
    omega
/-- The squares of a motor and a course. -/
def sS (U D T : Int) (c : List Int) : Nat → Int := sqF U D (capF T c) c.length
def passL (U D T : Int) (c : List Int) : List Int := (List.range (c.length + 1)).map (tF (sS U D T c))
def runV (U D T : Int) (c : List Int) : Int := tF (sS U D T c) c.length
def runR (U D T : Int) (c : List Int) : Int := if motB U D T = true ∧ crsB c = true then runV U D T c else -1
def passR (U D T : Int) (c : List Int) : List Int := if motB U D T = true ∧ crsB c = true then passL U D T c else []
theorem sS_bd {U D T : Int} {c : List Int} (hm : motB U D T = true) (hc : crsB c = true) (k : Nat) (hk : k ≤ c.length) : 0 ≤ sS U D T c k ∧ sS U D T c k ≤ 8100 := by
  obtain ⟨hU, hD, hT⟩ := motB_spec hm
  obtain ⟨hn, hc⟩ := crsB_spec hc
  exact sqF_bd (by omega) (by omega) hT hc k hk
theorem runV_bd {U D T : Int} {c : List Int} (hm : motB U D T = true) (hc : crsB c = true) : 0 ≤ runV U D T c ∧ runV U D T c ≤ 100000 := by
  have := tF_bd (sS U D T c) c.length (fun i hi => sS_bd hm hc i hi) c.length (Nat.le_refl _)
  have := (crsB_spec hc).1
  unfold runV
  omega
theorem passL_length (U D T : Int) (c : List Int) : (passL U D T c).length = c.length + 1 := by simp [passL]
theorem passR_length (U D T : Int) (c : List Int) : (passR U D T c).length ≤ c.length + 1 := by
  unfold passR
  split
  · rw [passL_length]; omega
  · simp
theorem sqL_at (U D T : Int) (c : List Int) (k : Nat) (hk : k ≤ c.length) : (sqL U D T c).getD k 0 = sS U D T c k := map_at _ _ k (by omega)
theorem impl_in (x lo hi : Int) : impl_between.f x lo hi = some (decide (lo ≤ x ∧ x ≤ hi)) := by
  unfold impl_between.f
  by_cases h : x ≥ lo
  · have h' : lo ≤ x := h
    simp [h, h']
  · have h' : ¬ lo ≤ x := h
    simp [h, h']
theorem impl_mot (U D T : Int) : impl_MotorOk.f U D T = some (motB U D T) := by
  unfold impl_MotorOk.f motB
  simp only [impl_in, Option.bind_some]
  by_cases h1 : 1 ≤ U ∧ U ≤ 200 <;> by_cases h2 : 1 ≤ D ∧ D ≤ 400 <;> by_cases h3 : 1 ≤ T ∧ T ≤ 90 <;> simp [h1, h2, h3]
theorem impl_crs_loop (xs : List Int) (hn : xs.length ≤ 2000000) : ∀ (rest : List Int) (j : Nat), xs.drop j = rest → Ev (fun k => impl_courseOk.l0 k xs (xs.length : Int) (j : Int)) (rest.all (fun x => decide (1 ≤ x ∧ x ≤ 90))) := by
  intro rest
  induction rest with
  | nil =>
    intro j h
    have := drop_nil h
    refine Ev.step (fun k => by rw [impl_courseOk.l0]) ?_
    simp only [if_neg (show ¬ (j : Int) < (xs.length : Int) by omega)]
    exact ev_some
  | cons t rest ih =>
    intro j h
    obtain ⟨h1, h2, h3⟩ := drop_cons h
    refine Ev.step (fun k => by rw [impl_courseOk.l0]) ?_
    simp only [if_pos (show (j : Int) < (xs.length : Int) by omega), if_pos (show 0 ≤ (j : Int) by omega), rdI_at, h2, nat_w (show j ≤ 9223372036854775806 by omega), impl_in, Option.bind_some, List.all_cons]
    by_cases c : 1 ≤ t ∧ t ≤ 90
    · simp only [c, and_self, decide_true, if_true, Bool.true_and]; exact ih (j + 1) h3
    · simp only [c, decide_false, Bool.false_eq_true, if_false, Bool.false_and]; exact ev_some
theorem impl_crs_ev (xs : List Int) (hn : xs.length ≤ 2000000) : Ev (fun k => impl_courseOk.f k xs) (crsB xs) := by
  unfold impl_courseOk.f crsB
  simp only [impl_in, Option.bind_some]
  by_cases h : 1 ≤ xs.length ∧ xs.length ≤ 200
  · have := impl_crs_loop xs hn xs 0 (by simp)
    simp only [show (1 ≤ (xs.length : Int) ∧ (xs.length : Int) ≤ 200) by omega, h, and_self, decide_true, if_true, Bool.true_and]
    exact this
  · simp only [show ¬ (1 ≤ (xs.length : Int) ∧ (xs.length : Int) ≤ 200) by omega, h, decide_false, Bool.false_eq_true, if_false, Bool.false_and]
    exact ev_some
theorem impl_sq1 (c : List Int) (U D T : Int) (hU : 1 ≤ U ∧ U ≤ 200) (hT : 1 ≤ T ∧ T ≤ 90) (hc : ∀ x ∈ c, 1 ≤ x ∧ x ≤ 90) (hn : 1 ≤ c.length ∧ c.length ≤ 200) (R : List Int) (m : Nat) : ∀ k : Nat, c.length - k = m → 1 ≤ k → k ≤ c.length →
    Ev (fun q => impl_squares.l1 q ((List.range (c.length + 1)).map (fun i => if i < c.length then fwF U (capF T c) i else 0)) ((c.length : Int) - 1) U D T) R →
    Ev (fun q => impl_squares.l0 q c (c.length : Int) ((List.range (c.length + 1)).map (fun i => if i < k then fwF U (capF T c) i else 0)) (k : Int) U D T) R := by
  induction m with
  | zero =>
    intro k h0 h1 h2 hR
    obtain rfl : k = c.length := by omega
    refine Ev.step (fun q => by rw [impl_squares.l0]) ?_
    simp only [if_neg (show ¬ (c.length : Int) < (c.length : Int) by omega), w64 (x := (c.length : Int) - 1) (by omega) (by omega)]
    exact hR
  | succ m ih =>
    intro k h0 h1 h2 hR
    obtain ⟨p, rfl⟩ : ∃ p, k = p + 1 := ⟨k - 1, by omega⟩
    have hgo := ih (p + 1 + 1) (by omega) (by omega) (by omega) hR
    have htop := cap_top hT hc (show 1 ≤ p + 1 by omega) (show p + 1 < c.length by omega)
    rw [Nat.add_sub_cancel] at htop
    have hsq := sqr_bd htop
    have hf1 := fw_le U (capF T c) p p (by omega)
    have hcp := capF_bd hT hc p (by omega)
    obtain ⟨j, hj, e⟩ := fw_eq U (capF T c) p
    have hcj := capF_bd hT hc j (by omega)
    have hm0 := Int.mul_nonneg (show 0 ≤ U by omega) (show 0 ≤ (p : Int) - (j : Int) by omega)
    simp at hf1
    have hr := map_at (fun i => if i < p + 1 then fwF U (capF T c) i else 0) (c.length + 1) p (by omega)
    simp only [if_pos (show p < p + 1 by omega)] at hr
    refine Ev.step (fun q => by rw [impl_squares.l0]) ?_
    rw [show (((p + 1 : Nat) : Int) - 1) = (p : Int) by omega, w64 (x := (p : Int)) (by omega) (by omega)]
    simp only [if_pos (show ((p + 1 : Nat) : Int) < (c.length : Int) by omega), if_pos (show 0 ≤ (p : Int) by omega), if_pos (show (p : Int) < (c.length : Int) by omega), if_pos (show 0 ≤ ((p + 1 : Nat) : Int) by omega), List.length_map, List.length_range, if_pos (show (p : Int) < ((c.length + 1 : Nat) : Int) by omega), if_pos (show ((p + 1 : Nat) : Int) < ((c.length + 1 : Nat) : Int) by omega), rdI_at, hr, Int.toNat_natCast]
    rw [w64 (x := mn (mn T (c.getD p 0)) (c.getD (p + 1) 0) * mn (mn T (c.getD p 0)) (c.getD (p + 1) 0)) (by omega) (by omega), w64 (x := fwF U (capF T c) p + U) (by omega) (by omega), nat_w (by omega), map_set]
    have hcap : capF T c (p + 1) = mn (mn T (c.getD p 0)) (c.getD (p + 1) 0) * mn (mn T (c.getD p 0)) (c.getD (p + 1) 0) := by
      unfold capF
      rw [if_neg (by omega), Nat.add_sub_cancel]
    rw [← hcap]
    have e2 : (List.range (c.length + 1)).map (fun i => if i = p + 1 then mn (capF T c (p + 1)) (fwF U (capF T c) p + U) else if i < p + 1 then fwF U (capF T c) i else 0) = (List.range (c.length + 1)).map (fun i => if i < p + 1 + 1 then fwF U (capF T c) i else 0) := by
      refine map_same _ _ _ fun i _ => ?_
      by_cases e3 : i = p + 1
      · subst e3
        rw [if_pos rfl, if_pos (by omega)]
        rfl
      · rw [if_neg e3]
        by_cases e4 : i < p + 1
        · rw [if_pos e4, if_pos (by omega)]
        · rw [if_neg e4, if_neg (by omega)]
    rw [e2]
    exact hgo
theorem impl_sq2 (c : List Int) (U D T : Int) (hU : 1 ≤ U ∧ U ≤ 200) (hD : 1 ≤ D ∧ D ≤ 400) (hT : 1 ≤ T ∧ T ≤ 90) (hc : ∀ x ∈ c, 1 ≤ x ∧ x ≤ 90) (hn : 1 ≤ c.length ∧ c.length ≤ 200) : ∀ k : Nat, k < c.length →
    Ev (fun q => impl_squares.l1 q ((List.range (c.length + 1)).map (fun i => if i ≤ k then fwF U (capF T c) i else sqF U D (capF T c) c.length i)) (k : Int) U D T) (sqL U D T c) := by
  intro k
  induction k with
  | zero =>
    intro hk
    refine Ev.step (fun q => by rw [impl_squares.l1]) ?_
    simp only [if_neg (show ¬ ((0 : Nat) : Int) > 0 by omega)]
    have e : (List.range (c.length + 1)).map (fun i => if i ≤ 0 then fwF U (capF T c) i else sqF U D (capF T c) c.length i) = sqL U D T c := by
      unfold sqL
      refine map_same _ _ _ fun i _ => ?_
      by_cases h : i ≤ 0
      · obtain rfl : i = 0 := by omega
        rw [if_pos h]
        have h1 := (sqF_ends (show 0 ≤ U by omega) (show 0 ≤ D by omega) hT hc).1
        rw [h1]
        show capF T c 0 = 0
        unfold capF; rw [if_pos (Or.inl rfl)]
      · rw [if_neg h]
    rw [e]
    exact ev_some
  | succ k ih =>
    intro hk
    have hgo := ih (by omega)
    have h1 := map_at (fun i => if i ≤ k + 1 then fwF U (capF T c) i else sqF U D (capF T c) c.length i) (c.length + 1) (k + 1) (by omega)
    have h2 := map_at (fun i => if i ≤ k + 1 then fwF U (capF T c) i else sqF U D (capF T c) c.length i) (c.length + 1) (k + 1 + 1) (by omega)
    simp only [if_pos (Nat.le_refl (k + 1)), if_neg (show ¬ k + 1 + 1 ≤ k + 1 by omega)] at h1 h2
    have hb := sqF_bd (show 0 ≤ U by omega) (show 0 ≤ D by omega) hT hc (k + 1 + 1) (by omega)
    refine Ev.step (fun q => by rw [impl_squares.l1]) ?_
    rw [nat_w (by omega), show (((k + 1 : Nat) : Int) - 1) = (k : Int) by omega, w64 (x := (k : Int)) (by omega) (by omega)]
    simp only [if_pos (show ((k + 1 : Nat) : Int) > 0 by omega), if_pos (show 0 ≤ ((k + 1 : Nat) : Int) by omega), if_pos (show 0 ≤ ((k + 1 + 1 : Nat) : Int) by omega), List.length_map, List.length_range, if_pos (show ((k + 1 : Nat) : Int) < ((c.length + 1 : Nat) : Int) by omega), if_pos (show ((k + 1 + 1 : Nat) : Int) < ((c.length + 1 : Nat) : Int) by omega), rdI_at, h1, h2, Int.toNat_natCast]
    rw [w64 (x := sqF U D (capF T c) c.length (k + 1 + 1) + D) (by omega) (by omega), map_set]
    have e2 : (List.range (c.length + 1)).map (fun i => if i = k + 1 then mn (fwF U (capF T c) (k + 1)) (sqF U D (capF T c) c.length (k + 1 + 1) + D) else if i ≤ k + 1 then fwF U (capF T c) i else sqF U D (capF T c) c.length i) = (List.range (c.length + 1)).map (fun i => if i ≤ k then fwF U (capF T c) i else sqF U D (capF T c) c.length i) := by
      refine map_same _ _ _ fun i _ => ?_
      by_cases e3 : i = k + 1
      · subst e3
        rw [if_pos rfl, if_neg (by omega)]
        unfold sqF
        obtain ⟨m, hm⟩ : ∃ m, c.length - (k + 1) = m + 1 := ⟨c.length - (k + 1) - 1, by omega⟩
        rw [hm, show c.length - (k + 1 + 1) = m by omega]
        simp only [bwF]
        rw [show c.length - (m + 1) = k + 1 by omega]
      · rw [if_neg e3]
        by_cases e4 : i ≤ k
        · rw [if_pos e4, if_pos (by omega)]
        · rw [if_neg e4, if_neg (by omega)]
    rw [e2]
    exact hgo
theorem impl_squares_ev (c : List Int) (U D T : Int) (hm : motB U D T = true) (hcr : crsB c = true) : Ev (fun q => impl_squares.f q U D T c) (sqL U D T c) := by
  obtain ⟨hU, hD, hT⟩ := motB_spec hm
  obtain ⟨hn, hc⟩ := crsB_spec hcr
  unfold impl_squares.f
  rw [nat_w (by omega)]
  simp only [if_pos (show 0 ≤ ((c.length + 1 : Nat) : Int) by omega), Int.toNat_natCast, if_pos (show c.length + 1 ≤ 35184372088832 by omega)]
  have h1 := impl_sq1 c U D T hU hT hc hn (sqL U D T c) (c.length - 1) 1 rfl (by omega) (by omega)
  have e1 : (List.range (c.length + 1)).map (fun i => if i < 1 then fwF U (capF T c) i else 0) = List.replicate (c.length + 1) 0 := by
    apply List.ext_getElem?
    intro i
    by_cases hi : i < c.length + 1
    · rw [List.getElem?_map, List.getElem?_range hi, List.getElem?_replicate, if_pos hi]
      simp only [Option.map_some]
      by_cases h0 : i < 1
      · obtain rfl : i = 0 := by omega
        rw [if_pos h0]
        show some (capF T c 0) = some 0
        unfold capF; rw [if_pos (Or.inl rfl)]
      · rw [if_neg h0]
    · rw [List.getElem?_eq_none (by simp; omega), List.getElem?_eq_none (by simp; omega)]
  rw [e1] at h1
  refine h1 ?_
  have h2 := impl_sq2 c U D T hU hD hT hc hn (c.length - 1) (by omega)
  rw [show ((c.length - 1 : Nat) : Int) = (c.length : Int) - 1 by omega] at h2
  have e2 : (List.range (c.length + 1)).map (fun i => if i ≤ c.length - 1 then fwF U (capF T c) i else sqF U D (capF T c) c.length i) = (List.range (c.length + 1)).map (fun i => if i < c.length then fwF U (capF T c) i else 0) := by
    refine map_same _ _ _ fun i hi => ?_
    by_cases h : i < c.length
    · rw [if_pos (by omega), if_pos h]
    · obtain rfl : i = c.length := by omega
      rw [if_neg (by omega), if_neg h]
      exact (sqF_ends (show 0 ≤ U by omega) (show 0 ≤ D by omega) hT hc).2
  rw [e2] at h2
  exact h2
theorem impl_root_loop (x : Int) (hx : x ≤ 9223372036854775807) (d : Nat) : ∀ lo hi : Int, 0 ≤ lo → lo < hi → hi ≤ 3037000500 → (hi - lo).toNat ≤ d → (0 ≤ x → lo * lo ≤ x) → (x < 0 → lo = 0) → x < hi * hi → Ev (fun k => impl_Root.l0 k x lo hi) (root x) := by
  induction d with
  | zero => intro lo hi h0 h1 h2 h3; omega
  | succ d ih =>
    intro lo hi h0 h1 h2 h3 h4 h5 h6
    refine Ev.step (fun k => by rw [impl_Root.l0]) ?_
    rw [w64 (x := hi - lo) (by omega) (by omega), w64 (x := lo + hi) (by omega) (by omega)]
    have hm : Int.tdiv (lo + hi) 2 = (lo + hi) / 2 := Int.tdiv_eq_ediv_of_nonneg (by omega)
    rw [hm, w64 (x := (lo + hi) / 2) (by omega) (by omega)]
    generalize hM : (lo + hi) / 2 = M
    by_cases hg : hi - lo > 1
    · simp only [if_pos hg]
      have a1 : lo < M := by omega
      have a2 : M < hi := by omega
      have a3 : M * M ≤ 3037000499 * 3037000499 := sq_le (by omega) (by omega)
      have a4 : 0 ≤ M * M := Int.mul_nonneg (by omega) (by omega)
      rw [w64 (x := M * M) (by omega) (by omega)]
      by_cases hc : M * M ≤ x
      · simp only [if_pos hc]
        exact ih M hi (by omega) a2 h2 (by omega) (fun _ => hc) (fun h => by omega) h6
      · simp only [if_neg hc]
        exact ih lo M h0 a1 (by omega) (by omega) h4 h5 (by omega)
    · simp only [if_neg hg]
      have e : hi = lo + 1 := by omega
      subst e
      rcases Int.lt_or_le x 0 with h7 | h7
      · rw [root_neg (by omega), h5 h7]
        exact ev_some
      · rw [root_eq h0 (h4 h7) h6]
        exact ev_some
theorem impl_root_ev (x : Int) (hx : x ≤ 9223372036854775807) : Ev (fun k => impl_Root.f k x) (root x) := by
  unfold impl_Root.f
  refine impl_root_loop x hx 3037000500 0 3037000500 (by omega) (by omega) (by omega) (by omega) (fun h => by omega) (fun _ => rfl) (by omega)
theorem impl_cell_ev {a b : Int} (ha : 0 ≤ a ∧ a ≤ 8100) (hb : 0 ≤ b ∧ b ≤ 8100) : Ev (fun k => impl_CellTime.f k a b) (cellT a b) := by
  unfold impl_CellTime.f
  simp only [impl_in, Option.bind_some, ha, hb, and_self, decide_true, if_true, Bool.not_true]
  refine Ev.step (fun k => by rw [impl_CellTime.j0]) ?_
  simp only [Bool.false_eq_true, if_false]
  rw [w64 (x := 100 * a) (by omega) (by omega), w64 (x := 100 * b) (by omega) (by omega)]
  refine Ev.bind (impl_root_ev _ (by omega)) ?_
  refine Ev.bind (impl_root_ev _ (by omega)) ?_
  have h1 := root_8100 ha.2
  have h2 := root_8100 hb.2
  have h3 := root_nonneg (100 * a)
  have h4 := root_nonneg (100 * b)
  rw [w64 (x := root (100 * a) + root (100 * b)) (by omega) (by omega)]
  have hm : mx (root (100 * a) + root (100 * b)) 20 = cellU a b := by unfold mx cellU; rfl
  have hu := cellU_bd ha.2 hb.2
  rw [hm, if_neg (by omega), w64 (x := 10000 + cellU a b) (by omega) (by omega), w64 (x := 10000 + cellU a b - 1) (by omega) (by omega), Int.tdiv_eq_ediv_of_nonneg (by omega)]
  have hb := cellT_bd ha.2 hb.2
  have he : (10000 + cellU a b - 1) / cellU a b = cellT a b := rfl
  rw [he, w64 (by omega) (by omega)]
  exact ev_some
theorem impl_cell_no {a b : Int} (h : ¬ ((0 ≤ a ∧ a ≤ 8100) ∧ (0 ≤ b ∧ b ≤ 8100))) : Ev (fun k => impl_CellTime.f k a b) (-1) := by
  unfold impl_CellTime.f
  simp only [impl_in, Option.bind_some]
  by_cases h1 : 0 ≤ a ∧ a ≤ 8100
  · have h2 : ¬ (0 ≤ b ∧ b ≤ 8100) := fun h2 => h ⟨h1, h2⟩
    simp only [h1, h2, and_self, decide_true, decide_false, if_true, Bool.not_false]
    exact Ev.step (fun k => by rw [impl_CellTime.j0]) (by simpa using ev_some)
  · simp only [h1, decide_false, Bool.false_eq_true, if_false]
    exact Ev.step (fun k => by rw [impl_CellTime.j0]) (by simpa using ev_some)
theorem impl_pass_loop {U D T : Int} {c : List Int} (hm : motB U D T = true) (hc : crsB c = true) (m : Nat) : ∀ k : Nat, c.length + 1 - k = m → 1 ≤ k → k ≤ c.length + 1 →
    Ev (fun q => impl_passing.l0 q (sqL U D T c) ((List.range (c.length + 1)).map (fun i => if i < k then tF (sS U D T c) i else 0)) (k : Int)) (passL U D T c) := by
  have hl := sqL_length U D T c
  have hn := (crsB_spec hc).1
  induction m with
  | zero =>
    intro k h0 h1 h2
    obtain rfl : k = c.length + 1 := by omega
    refine Ev.step (fun q => by rw [impl_passing.l0]) ?_
    simp only [hl, if_neg (show ¬ ((c.length + 1 : Nat) : Int) < ((c.length + 1 : Nat) : Int) by omega)]
    have e : (List.range (c.length + 1)).map (fun i => if i < c.length + 1 then tF (sS U D T c) i else 0) = passL U D T c := map_same _ _ _ fun i hi => by rw [if_pos hi]
    rw [e]
    exact ev_some
  | succ m ih =>
    intro k h0 h1 h2
    obtain ⟨p, rfl⟩ : ∃ p, k = p + 1 := ⟨k - 1, by omega⟩
    have hgo := ih (p + 1 + 1) (by omega) (by omega) (by omega)
    have hr := map_at (fun i => if i < p + 1 then tF (sS U D T c) i else 0) (c.length + 1) p (by omega)
    simp only [if_pos (show p < p + 1 by omega)] at hr
    have b1 := sS_bd hm hc p (by omega)
    have b2 := sS_bd hm hc (p + 1) (by omega)
    have b3 := tF_bd (sS U D T c) c.length (fun i hi => sS_bd hm hc i hi) p (by omega)
    have b4 := cellT_bd b1.2 b2.2
    refine Ev.step (fun q => by rw [impl_passing.l0]) ?_
    rw [show (((p + 1 : Nat) : Int) - 1) = (p : Int) by omega, w64 (x := (p : Int)) (by omega) (by omega)]
    simp only [hl, List.length_map, List.length_range, if_pos (show ((p + 1 : Nat) : Int) < ((c.length + 1 : Nat) : Int) by omega), if_pos (show 0 ≤ (p : Int) by omega), if_pos (show (p : Int) < ((c.length + 1 : Nat) : Int) by omega), if_pos (show 0 ≤ ((p + 1 : Nat) : Int) by omega), rdI_at, hr, Int.toNat_natCast, sqL_at U D T c p (by omega), sqL_at U D T c (p + 1) (by omega)]
    refine Ev.bind (impl_cell_ev b1 b2) ?_
    rw [w64 (x := tF (sS U D T c) p + cellT (sS U D T c p) (sS U D T c (p + 1))) (by omega) (by omega), nat_w (by omega), map_set]
    have e2 : (List.range (c.length + 1)).map (fun i => if i = p + 1 then tF (sS U D T c) p + cellT (sS U D T c p) (sS U D T c (p + 1)) else if i < p + 1 then tF (sS U D T c) i else 0) = (List.range (c.length + 1)).map (fun i => if i < p + 1 + 1 then tF (sS U D T c) i else 0) := by
      refine map_same _ _ _ fun i _ => ?_
      by_cases e3 : i = p + 1
      · subst e3
        rw [if_pos rfl, if_pos (by omega)]
        rfl
      · rw [if_neg e3]
        by_cases e4 : i < p + 1
        · rw [if_pos e4, if_pos (by omega)]
        · rw [if_neg e4, if_neg (by omega)]
    rw [e2]
    exact hgo
theorem impl_passing_ev {U D T : Int} {c : List Int} (hm : motB U D T = true) (hc : crsB c = true) : Ev (fun q => impl_passing.f q U D T c) (passL U D T c) := by
  have hl := sqL_length U D T c
  have hn := (crsB_spec hc).1
  unfold impl_passing.f
  refine Ev.bind (impl_squares_ev c U D T hm hc) ?_
  simp only [hl, if_pos (show 0 ≤ ((c.length + 1 : Nat) : Int) by omega), Int.toNat_natCast, if_pos (show c.length + 1 ≤ 35184372088832 by omega)]
  have h1 := impl_pass_loop hm hc c.length 1 (by omega) (by omega) (by omega)
  have e1 : (List.range (c.length + 1)).map (fun i => if i < 1 then tF (sS U D T c) i else 0) = List.replicate (c.length + 1) 0 := by
    apply List.ext_getElem?
    intro i
    by_cases hi : i < c.length + 1
    · rw [List.getElem?_map, List.getElem?_range hi, List.getElem?_replicate, if_pos hi]
      simp only [Option.map_some]
      by_cases h0 : i < 1
      · obtain rfl : i = 0 := by omega
        rw [if_pos h0]; rfl
      · rw [if_neg h0]
    · rw [List.getElem?_eq_none (by simp; omega), List.getElem?_eq_none (by simp; omega)]
  rw [e1] at h1
  exact h1
theorem impl_run0_ev {U D T : Int} {c : List Int} (hm : motB U D T = true) (hc : crsB c = true) : Ev (fun q => impl_runTime.f q U D T c) (runV U D T c) := by
  unfold impl_runTime.f
  refine Ev.bind (impl_passing_ev hm hc) ?_
  have e : rd (passL U D T c) (c.length : Int) = runV U D T c := by rw [rdI_at]; exact map_at _ _ c.length (by omega)
  simp only [if_pos (show 0 ≤ (c.length : Int) by omega), passL_length, if_pos (show (c.length : Int) < ((c.length + 1 : Nat) : Int) by omega), e]
  exact ev_some
theorem impl_run_ev (U D T : Int) (c : List Int) (hl : c.length ≤ 2000000) : Ev (fun q => impl_RunTime.f q U D T c) (runR U D T c) := by
  unfold impl_RunTime.f runR
  simp only [impl_mot, Option.bind_some]
  by_cases hm : motB U D T = true
  · simp only [hm, if_true, true_and]
    refine Ev.bind (impl_crs_ev c hl) ?_
    by_cases hcr : crsB c = true
    · simp only [hcr, if_true]
      exact Ev.bind (impl_run0_ev hm hcr) ev_some
    · simp only [if_neg hcr]
      exact ev_some
  · simp only [if_neg hm, if_neg (show ¬ (motB U D T = true ∧ crsB c = true) from fun x => hm x.1)]
    exact ev_some
theorem impl_Passing_ev (U D T : Int) (c : List Int) (hl : c.length ≤ 2000000) : Ev (fun q => impl_Passing.f q U D T c) (passR U D T c) := by
  unfold impl_Passing.f passR
  simp only [impl_mot, Option.bind_some]
  by_cases hm : motB U D T = true
  · simp only [hm, if_true, true_and]
    refine Ev.bind (impl_crs_ev c hl) ?_
    by_cases hcr : crsB c = true
    · simp only [hcr, if_true]
      exact Ev.bind (impl_passing_ev hm hcr) ev_some
    · simp only [if_neg hcr]
      exact ev_some
  · simp only [if_neg hm, if_neg (show ¬ (motB U D T = true ∧ crsB c = true) from fun x => hm x.1)]
    exact ev_some
theorem crs_take {c : List Int} (hc : crsB c = true) (j : Nat) (h1 : 1 ≤ j) (h2 : j < c.length) : crsB (c.take j) = true ∧ crsB (c.drop j) = true := by
  obtain ⟨hn, hx⟩ := crsB_spec hc
  unfold crsB
  simp only [Bool.and_eq_true, decide_eq_true_eq, List.all_eq_true, List.length_take, List.length_drop]
  exact ⟨⟨by omega, fun x h => hx x (List.mem_of_mem_take h)⟩, ⟨by omega, fun x h => hx x (List.mem_of_mem_drop h)⟩⟩
def stopR (U D T : Int) (c : List Int) (a : Int) : Int := if motB U D T = true ∧ crsB c = true ∧ 1 ≤ a ∧ a < (c.length : Int) then runV U D T (c.take a.toNat) + runV U D T (c.drop a.toNat) else -1
theorem impl_stop_ev (U D T : Int) (c : List Int) (a : Int) (hl : c.length ≤ 2000000) : Ev (fun q => impl_WithStop.f q U D T c a) (stopR U D T c a) := by
  unfold impl_WithStop.f stopR
  simp only [impl_mot, Option.bind_some]
  by_cases hm : motB U D T = true
  · simp only [hm, if_true, true_and]
    refine Ev.bind (impl_crs_ev c hl) ?_
    by_cases hcr : crsB c = true
    · simp only [hcr, if_true, true_and, impl_in, Option.bind_some]
      rw [w64 (x := (c.length : Int) - 1) (by omega) (by omega)]
      refine Ev.step (fun k => by rw [impl_WithStop.j0]) ?_
      by_cases ha : 1 ≤ a ∧ a < (c.length : Int)
      · obtain ⟨j, rfl⟩ : ∃ j : Nat, a = j := ⟨a.toNat, by omega⟩
        have hp := crs_take hcr j (by omega) (by omega)
        have b1 := runV_bd hm hp.1
        have b2 := runV_bd hm hp.2
        simp only [show (1 ≤ (j : Int) ∧ (j : Int) ≤ (c.length : Int) - 1) by omega, ha, and_self, decide_true, Bool.not_true, Bool.false_eq_true, if_false, if_true, if_pos (show 0 ≤ (j : Int) by omega), if_pos (show (j : Int) ≤ (c.length : Int) by omega), Int.toNat_natCast]
        refine Ev.bind (impl_run0_ev hm hp.1) (Ev.bind (impl_run0_ev hm hp.2) ?_)
        rw [w64 (by omega) (by omega)]
        exact ev_some
      · simp only [show ¬ (1 ≤ a ∧ a ≤ (c.length : Int) - 1) by omega, ha, decide_false, Bool.not_false, if_true, if_false]
        exact ev_some
    · simp only [if_neg hcr, if_neg (show ¬ (crsB c = true ∧ 1 ≤ a ∧ a < (c.length : Int)) from fun x => hcr x.1)]
      refine Ev.step (fun k => by rw [impl_WithStop.j0]) ?_
      simp only [if_true]
      exact ev_some
  · simp only [if_neg hm, if_neg (show ¬ (motB U D T = true ∧ crsB c = true ∧ 1 ≤ a ∧ a < (c.length : Int)) from fun x => hm x.1)]
    refine Ev.step (fun k => by rw [impl_WithStop.j0]) ?_
    simp only [if_true]
    exact ev_some
theorem ceil_anti {u v : Int} (h0 : 0 < u) (h : u ≤ v) : (10000 + v - 1) / v ≤ (10000 + u - 1) / u := by
  have h1 : 10000 + u - 1 < ((10000 + u - 1) / u + 1) * u := Int.lt_ediv_add_one_mul_self _ h0
  rw [Int.add_mul, Int.one_mul] at h1
  have hq : 0 ≤ (10000 + u - 1) / u := Int.ediv_nonneg (by omega) (by omega)
  generalize (10000 + u - 1) / u = q at h1 hq ⊢
  have h2 := Int.mul_le_mul_of_nonneg_left h hq
  have h3 : (10000 + v - 1) / v < q + 1 := by
    apply Int.ediv_lt_of_lt_mul (by omega)
    rw [Int.add_mul, Int.one_mul]
    omega
  omega
theorem cellU_mono {a b a' b' : Int} (ha : a ≤ a') (hb : b ≤ b') : cellU a b ≤ cellU a' b' := by
  have h1 := root_mono (show 100 * a ≤ 100 * a' by omega)
  have h2 := root_mono (show 100 * b ≤ 100 * b' by omega)
  unfold cellU
  split <;> split <;> omega
theorem cellT_anti {a b a' b' : Int} (ha : a ≤ a') (hb : b ≤ b') (h1 : a ≤ 8100) (h2 : b ≤ 8100) : cellT a' b' ≤ cellT a b := by
  unfold cellT
  exact ceil_anti (by have := (cellU_bd h1 h2).1; omega) (cellU_mono ha hb)
theorem cellT_pos {a b : Int} (h1 : a ≤ 8100) (h2 : b ≤ 8100) : 1 ≤ cellT a b := by
  have h := ceil_anti (u := cellU a b) (v := 1800) (by have := (cellU_bd h1 h2).1; omega) (cellU_bd h1 h2).2
  have e : ((10000 : Int) + 1800 - 1) / 1800 = 6 := by decide
  unfold cellT
  omega
theorem tF_mono {S S' : Nat → Int} (n : Nat) (h : ∀ i, i ≤ n → S i ≤ S' i) (hb : ∀ i, i ≤ n → S i ≤ 8100) : ∀ k, k ≤ n → tF S' k ≤ tF S k
  | 0, _ => by simp [tF]
  | k + 1, hk => by
    have ih := tF_mono n h hb k (by omega)
    have hc := cellT_anti (h k (by omega)) (h (k + 1) hk) (hb k (by omega)) (hb (k + 1) hk)
    simp only [tF]
    omega
theorem mn_mono {a b a' b' : Int} (ha : a ≤ a') (hb : b ≤ b') : mn a b ≤ mn a' b' := by
  have h1 := mn_le a b
  have h2 := mn_le a' b'
  rcases h2.2.2 with h | h <;> omega
theorem capF_mono {T T' : Int} {c c' : List Int} (hT : T ≤ T') (h1 : 1 ≤ T ∧ T ≤ 90) (hl : c.length = c'.length) (hc : ∀ x ∈ c, 1 ≤ x ∧ x ≤ 90) (hm : ∀ i : Nat, c.getD i 0 ≤ c'.getD i 0) (k : Nat) (hk : k ≤ c.length) : capF T c k ≤ capF T' c' k := by
  unfold capF
  rw [← hl]
  by_cases h : k = 0 ∨ k = c.length
  · rw [if_pos h, if_pos h]; omega
  · rw [if_neg h, if_neg h]
    have ht := cap_top h1 hc (show 1 ≤ k by omega) (show k < c.length by omega)
    exact sq_le (by omega) (mn_mono (mn_mono hT (hm (k - 1))) (hm k))
/-- Whatever is greater makes no run longer. -/
theorem runV_mono {U D T U' D' T' : Int} {c c' : List Int} (hm : motB U D T = true) (hc : crsB c = true) (hU : U ≤ U') (hD : D ≤ D') (hT : T ≤ T') (hl : c.length = c'.length) (hx : ∀ i : Nat, c.getD i 0 ≤ c'.getD i 0) : runV U' D' T' c' ≤ runV U D T c := by
  obtain ⟨bU, bD, bT⟩ := motB_spec hm
  obtain ⟨bn, bc⟩ := crsB_spec hc
  unfold runV
  rw [← hl]
  refine tF_mono c.length (fun i hi => ?_) (fun i hi => (sS_bd hm hc i hi).2) c.length (Nat.le_refl _)
  unfold sS
  rw [← hl]
  exact sq_mono (by omega) (by omega) hU hD (fun j hj => capF_mono hT bT hl bc hx j hj) hi
theorem runV_pos {U D T : Int} {c : List Int} (hm : motB U D T = true) (hc : crsB c = true) : 1 ≤ runV U D T c := by
  obtain ⟨bn, bc⟩ := crsB_spec hc
  unfold runV
  obtain ⟨m, e⟩ : ∃ m, c.length = m + 1 := ⟨c.length - 1, by omega⟩
  have h1 := (tF_bd (sS U D T c) c.length (fun i hi => sS_bd hm hc i hi) m (by omega)).1
  have h2 := cellT_pos (sS_bd hm hc m (by omega)).2 (sS_bd hm hc (m + 1) (by omega)).2
  rw [e]
  simp only [tF]
  omega
/-! A stop at a border never makes a run earlier. -/
theorem capF_nonneg {T : Int} (hT : 1 ≤ T ∧ T ≤ 90) {c : List Int} (hc : ∀ x ∈ c, 1 ≤ x ∧ x ≤ 90) (k : Nat) (hk : k ≤ c.length) : 0 ≤ capF T c k := (capF_bd hT hc k hk).1
theorem take_at (c : List Int) (j i : Nat) (h : i < j) : (c.take j).getD i 0 = c.getD i 0 := by
  rw [List.getD_eq_getElem?_getD, List.getD_eq_getElem?_getD, List.getElem?_take_of_lt h]
theorem drop_at (c : List Int) (j i : Nat) : (c.drop j).getD i 0 = c.getD (j + i) 0 := by
  rw [List.getD_eq_getElem?_getD, List.getD_eq_getElem?_getD, List.getElem?_drop]
section
variable {U D T : Int} {c : List Int} (hU : 0 ≤ U) (hD : 0 ≤ D) (hT : 1 ≤ T ∧ T ≤ 90) (hc : ∀ x ∈ c, 1 ≤ x ∧ x ≤ 90) (j : Nat) (h1 : 1 ≤ j) (h2 : j < c.length)
include hU hD hT hc h1 h2
theorem sq_take (k : Nat) (hk : k ≤ j) : sqF U D (capF T (c.take j)) j k ≤ sqF U D (capF T c) c.length k := by
  have _ := h1
  obtain ⟨i, hi, e⟩ := sq_eq_cand hU hD (cap := capF T c) (n := c.length) (k := k) (by omega)
  rw [e]
  have hlen : (c.take j).length = j := by rw [List.length_take]; omega
  by_cases hij : i < j
  · have hcap : capF T (c.take j) i = capF T c i := by
      unfold capF
      rw [hlen]
      by_cases h0 : i = 0
      · rw [if_pos (Or.inl h0), if_pos (Or.inl h0)]
      · rw [if_neg (by omega), if_neg (by omega), take_at c j (i - 1) (by omega), take_at c j i hij]
    have h := sq_le_cand (U := U) (D := D) (cap := capF T (c.take j)) hk i (by omega)
    have e2 : cand U D (capF T (c.take j)) k i = cand U D (capF T c) k i := by unfold cand; rw [hcap]
    rw [← e2]; exact h
  · have h := sq_le_cand (U := U) (D := D) (cap := capF T (c.take j)) hk j (Nat.le_refl _)
    have hz : capF T (c.take j) j = 0 := by unfold capF; rw [hlen, if_pos (Or.inr rfl)]
    have e2 : cand U D (capF T (c.take j)) k j = D * ((j : Int) - (k : Int)) := by unfold cand; rw [if_neg (by omega), hz]; omega
    have e3 : cand U D (capF T c) k i = capF T c i + D * ((i : Int) - (k : Int)) := by unfold cand; rw [if_neg (by omega)]
    have hn := capF_nonneg hT hc i hi
    have hm : D * ((j : Int) - (k : Int)) ≤ D * ((i : Int) - (k : Int)) := mul_le_of hD (by omega)
    rw [e2] at h
    rw [e3]
    omega
theorem sq_drop (k : Nat) (hk : k ≤ c.length - j) : sqF U D (capF T (c.drop j)) (c.length - j) k ≤ sqF U D (capF T c) c.length (j + k) := by
  obtain ⟨i, hi, e⟩ := sq_eq_cand hU hD (cap := capF T c) (n := c.length) (k := j + k) (by omega)
  rw [e]
  have hlen : (c.drop j).length = c.length - j := List.length_drop
  by_cases hij : j < i
  · have hcap : capF T (c.drop j) (i - j) = capF T c i := by
      unfold capF
      rw [hlen]
      by_cases h0 : i = c.length
      · rw [if_pos (Or.inr (by omega)), if_pos (Or.inr h0)]
      · rw [if_neg (by omega), if_neg (by omega), drop_at, drop_at, show j + (i - j - 1) = i - 1 by omega, show j + (i - j) = i by omega]
    have h := sq_le_cand (U := U) (D := D) (cap := capF T (c.drop j)) hk (i - j) (by omega)
    have e2 : cand U D (capF T (c.drop j)) k (i - j) = cand U D (capF T c) (j + k) i := by
      unfold cand
      rw [hcap]
      by_cases hlt : i - j < k
      · rw [if_pos hlt, if_pos (by omega), show (k : Int) - ((i - j : Nat) : Int) = ((j + k : Nat) : Int) - (i : Int) by omega]
      · rw [if_neg hlt, if_neg (by omega), show ((i - j : Nat) : Int) - (k : Int) = (i : Int) - ((j + k : Nat) : Int) by omega]
    rw [← e2]; exact h
  · have h := sq_le_cand (U := U) (D := D) (cap := capF T (c.drop j)) hk 0 (by omega)
    have hz : capF T (c.drop j) 0 = 0 := by unfold capF; rw [if_pos (Or.inl rfl)]
    have hn := capF_nonneg hT hc i hi
    by_cases k0 : k = 0
    · subst k0
      have e2 : cand U D (capF T (c.drop j)) 0 0 = 0 := by rw [cand_self, hz]
      rw [e2] at h
      have : 0 ≤ cand U D (capF T c) (j + 0) i := by
        unfold cand
        by_cases hlt : i < j + 0
        · rw [if_pos hlt]
          have := Int.mul_nonneg hU (show 0 ≤ ((j + 0 : Nat) : Int) - (i : Int) by omega)
          omega
        · rw [if_neg hlt]
          have := Int.mul_nonneg hD (show 0 ≤ (i : Int) - ((j + 0 : Nat) : Int) by omega)
          omega
      omega
    · have e2 : cand U D (capF T (c.drop j)) k 0 = U * (k : Int) := by unfold cand; rw [if_pos (by omega), hz]; simp
      have e3 : cand U D (capF T c) (j + k) i = capF T c i + U * (((j + k : Nat) : Int) - (i : Int)) := by unfold cand; rw [if_pos (by omega)]
      have hm : U * (k : Int) ≤ U * (((j + k : Nat) : Int) - (i : Int)) := mul_le_of hU (by omega)
      rw [e2] at h
      rw [e3]
      omega
end
theorem tF_split (S : Nat → Int) (j : Nat) : ∀ m, tF S (j + m) = tF S j + tF (fun i => S (j + i)) m
  | 0 => by simp [tF]
  | m + 1 => by
    have := tF_split S j m
    show tF S (j + m) + cellT (S (j + m)) (S (j + m + 1)) = tF S j + (tF (fun i => S (j + i)) m + cellT (S (j + m)) (S (j + (m + 1))))
    rw [this]
    rw [show j + (m + 1) = j + m + 1 by omega]
    omega
theorem run_stop {U D T : Int} {c : List Int} (hm : motB U D T = true) (hc : crsB c = true) (j : Nat) (h1 : 1 ≤ j) (h2 : j < c.length) : runV U D T c ≤ runV U D T (c.take j) + runV U D T (c.drop j) := by
  obtain ⟨bU, bD, bT⟩ := motB_spec hm
  obtain ⟨bn, bc⟩ := crsB_spec hc
  obtain ⟨t1, t2⟩ := crs_take hc j h1 h2
  have l1 : (c.take j).length = j := by rw [List.length_take]; omega
  have l2 : (c.drop j).length = c.length - j := List.length_drop
  have hs := tF_split (sS U D T c) j (c.length - j)
  rw [show j + (c.length - j) = c.length by omega] at hs
  have a1 : tF (sS U D T c) j ≤ tF (sS U D T (c.take j)) j := by
    refine tF_mono j (fun i hi => ?_) (fun i hi => ?_) j (Nat.le_refl _)
    · have := sq_take (U := U) (D := D) (by omega) (by omega) bT bc j h1 h2 i hi
      unfold sS; rw [l1]; exact this
    · exact (sS_bd hm t1 i (by omega)).2
  have a2 : tF (fun i => sS U D T c (j + i)) (c.length - j) ≤ tF (sS U D T (c.drop j)) (c.length - j) := by
    refine tF_mono (c.length - j) (fun i hi => ?_) (fun i hi => ?_) (c.length - j) (Nat.le_refl _)
    · have := sq_drop (U := U) (D := D) (by omega) (by omega) bT bc j h1 h2 i hi
      show sS U D T (c.drop j) i ≤ sS U D T c (j + i)
      unfold sS; rw [l2]; exact this
    · exact (sS_bd hm t2 i (by omega)).2
  unfold runV
  rw [l1, l2, hs]
  omega
theorem and255 (n : Int) : Go.bits .and .i64 n 255 = n % 256 := by
  have h255 : (BitVec.ofInt 64 255).toNat = 2 ^ 8 - 1 := by decide
  have key : (BitVec.ofInt 64 n &&& BitVec.ofInt 64 255).toNat = (n % ((2 ^ 64 : Nat) : Int)).toNat % 2 ^ 8 := by
    rw [BitVec.toNat_and, BitVec.toNat_ofInt, h255, Nat.and_two_pow_sub_one_eq_mod]
  show Go.IntKind.i64.wrap ((BitVec.ofInt 64 n &&& BitVec.ofInt 64 255).toNat : Nat) = n % 256
  rw [key, Go.IntKind.wrap_i64]
  omega
theorem new_loop (l : List Int) (hl : l.length ≤ 2000000) (m : Nat) : ∀ (j : Nat) (h : Int), l.length - j = m → j ≤ l.length → ∃ h', Ev (fun k => spec_l01New.l0 k l h (j : Int)) (l, 0, h') := by
  induction m with
  | zero =>
    intro j h h0 h1
    refine ⟨h, Ev.step (fun k => by rw [spec_l01New.l0]) ?_⟩
    simp only [if_neg (show ¬ (j : Int) < (l.length : Int) by omega)]
    exact ev_some
  | succ m ih =>
    intro j h h0 h1
    by_cases c : (j : Int) < 4000
    · obtain ⟨h', hh⟩ := ih (j + 1) (Go.bits .and .i64 (wrap64 ((wrap64 ((wrap64 (h * 137)) + (wrap64 (rd l (j : Int))))) + 11)) 1073741823) (by omega) (by omega)
      refine ⟨h', Ev.step (fun k => by rw [spec_l01New.l0]) ?_⟩
      simp only [if_pos (show (j : Int) < (l.length : Int) by omega), if_pos c, if_pos (show 0 ≤ (j : Int) by omega), nat_w (show j ≤ 9223372036854775806 by omega)]
      exact hh
    · refine ⟨h, Ev.step (fun k => by rw [spec_l01New.l0]) ?_⟩
      simp only [if_pos (show (j : Int) < (l.length : Int) by omega), if_neg c]
      exact ev_some
theorem new_ev (l : List Int) (hl : l.length ≤ 2000000) : ∃ h, Ev (fun k => spec_l01New.f k l) (l, 0, h) := by
  unfold spec_l01New.f
  obtain ⟨h, hh⟩ := new_loop l hl l.length 0 (wrap64 (75075 + (l.length : Int))) (by omega) (by omega)
  exact ⟨h, by simpa using hh⟩
/-- A place in the bytes of a draw. -/
def Pl (l : List Int) (i : Int) : Prop := 0 ≤ i ∧ i ≤ (l.length : Int)
theorem byte_ev (l : List Int) (hl : l.length ≤ 2000000) (i h : Int) (hi : Pl l i) : ∃ r i' h', spec_l01Byte.f l i h = some (r, i', h') ∧ (0 ≤ r ∧ r ≤ 255) ∧ Pl l i' := by
  unfold Pl at *
  unfold spec_l01Byte.f
  by_cases c : i < (l.length : Int)
  · simp only [if_pos c, if_pos hi.1, and255]
    refine ⟨_, _, _, rfl, by omega, ?_⟩
    rw [w64 (by omega) (by omega)]
    omega
  · simp only [if_neg c, and255]
    exact ⟨_, _, _, rfl, by omega, hi⟩
theorem below_ev (l : List Int) (hl : l.length ≤ 2000000) (i h : Int) (hi : Pl l i) (n : Int) (hn : n ≤ 16777216) : ∃ r i' h', spec_l01Below.f l i h n = some (r, i', h') ∧ (0 ≤ r ∧ (r < n ∨ r = 0)) ∧ Pl l i' := by
  unfold spec_l01Below.f
  by_cases c0 : n ≤ 0
  · simp only [if_pos c0]
    exact ⟨_, _, _, rfl, by omega, hi⟩
  · simp only [if_neg c0]
    by_cases c1 : n ≤ 256
    · obtain ⟨r, i', h', e, hr, hp⟩ := byte_ev l hl i h hi
      simp only [if_pos c1, e, Option.bind_some, if_neg (show ¬ n = 0 by omega)]
      refine ⟨_, _, _, rfl, ?_, hp⟩
      rw [Int.tmod_eq_emod_of_nonneg hr.1]
      have := Int.emod_nonneg r (show n ≠ 0 by omega)
      have := Int.emod_lt_of_pos r (show 0 < n by omega)
      omega
    · obtain ⟨r, i', h', e, hr, hp⟩ := byte_ev l hl i h hi
      obtain ⟨r2, i2, h2, e2, hr2, hp2⟩ := byte_ev l hl i' h' hp
      obtain ⟨r3, i3, h3, e3, hr3, hp3⟩ := byte_ev l hl i2 h2 hp2
      simp only [if_neg c1, e, e2, e3, Option.bind_some, if_neg (show ¬ n = 0 by omega)]
      refine ⟨_, _, _, rfl, ?_, hp3⟩
      rw [w64 (x := r * 65536) (by omega) (by omega), w64 (x := r2 * 256) (by omega) (by omega), w64 (x := r * 65536 + r2 * 256) (by omega) (by omega), w64 (x := r * 65536 + r2 * 256 + r3) (by omega) (by omega)]
      rw [Int.tmod_eq_emod_of_nonneg (by omega)]
      have := Int.emod_nonneg (r * 65536 + r2 * 256 + r3) (show n ≠ 0 by omega)
      have := Int.emod_lt_of_pos (r * 65536 + r2 * 256 + r3) (show 0 < n by omega)
      omega
/-- The same where n is above 0. -/
theorem below_pos (l : List Int) (hl : l.length ≤ 2000000) (i h : Int) (hi : Pl l i) (n : Int) (h0 : 0 < n) (hn : n ≤ 16777216) : ∃ r i' h', spec_l01Below.f l i h n = some (r, i', h') ∧ (0 ≤ r ∧ r < n) ∧ Pl l i' := by
  obtain ⟨r, i', h', e, hr, hp⟩ := below_ev l hl i h hi n hn
  exact ⟨r, i', h', e, by omega, hp⟩
theorem pl0 (l : List Int) : Pl l 0 := by unfold Pl; omega
theorem draw_motor_ev (l : List Int) (hl : l.length ≤ 2000000) (i h : Int) (hi : Pl l i) : ∃ U D T i' h', spec_l03DrawMotor.f l i h = some (U, D, T, i', h') ∧ (1 ≤ U ∧ U ≤ 60) ∧ (1 ≤ D ∧ D ≤ 120) ∧ (2 ≤ T ∧ T ≤ 51) ∧ Pl l i' := by
  obtain ⟨a, i1, h1, e1, b1, p1⟩ := below_pos l hl i h hi 60 (by omega) (by omega)
  obtain ⟨b, i2, h2, e2, b2, p2⟩ := below_pos l hl i1 h1 p1 120 (by omega) (by omega)
  obtain ⟨c, i3, h3, e3, b3, p3⟩ := below_pos l hl i2 h2 p2 50 (by omega) (by omega)
  refine ⟨1 + a, 1 + b, 2 + c, i3, h3, ?_, by omega, by omega, by omega, p3⟩
  unfold spec_l03DrawMotor.f
  simp only [e1, e2, e3, Option.bind_some]
  rw [w64 (x := 1 + a) (by omega) (by omega), w64 (x := 1 + b) (by omega) (by omega), w64 (x := 2 + c) (by omega) (by omega)]
theorem draw_course_loop (l : List Int) (hl : l.length ≤ 2000000) (m : Nat) : ∀ (acc : List Int) (cur i h : Int), acc.length + m ≤ 1000 → (1 ≤ cur ∧ cur ≤ 60) → (∀ x ∈ acc, 1 ≤ x ∧ x ≤ 60) → Pl l i →
    ∃ ts i' h', Ev (fun k => spec_l03DrawCourse.l0 k acc cur (m : Int) l i h) (ts, i', h') ∧ ts.length = acc.length + m ∧ (∀ x ∈ ts, 1 ≤ x ∧ x ≤ 60) ∧ Pl l i' := by
  induction m with
  | zero =>
    intro acc cur i h h0 hc ha hi
    refine ⟨acc, i, h, Ev.step (fun k => by rw [spec_l03DrawCourse.l0]) ?_, rfl, ha, hi⟩
    simp only [if_neg (show ¬ ((0 : Nat) : Int) > 0 by omega)]
    exact ev_some
  | succ m ih =>
    intro acc cur i h h0 hc ha hi
    obtain ⟨a, i1, h1, e1, b1, p1⟩ := below_pos l hl i h hi 4 (by omega) (by omega)
    have ho : spec_l01Once.f l i h 4 = some ((a == 0), i1, h1) := by
      unfold spec_l01Once.f; rw [e1]; rfl
    by_cases ca : (a == 0) = true
    · obtain ⟨b, i2, h2, e2, b2, p2⟩ := below_pos l hl i1 h1 p1 60 (by omega) (by omega)
      obtain ⟨ts, i', h', hev, q1, q2, q3⟩ := ih (acc ++ [1 + b]) (1 + b) i2 h2 (by simp; omega) (by omega) (by
        intro x hx
        rcases List.mem_append.mp hx with hx | hx
        · exact ha x hx
        · rw [List.mem_singleton] at hx; omega) p2
      refine ⟨ts, i', h', Ev.step (fun k => by rw [spec_l03DrawCourse.l0]) ?_, by rw [q1]; simp; omega, q2, q3⟩
      simp only [if_pos (show ((m + 1 : Nat) : Int) > 0 by omega), ho, Option.bind_some, ca, if_true, e2, w64 (x := 1 + b) (by omega) (by omega), if_pos (show acc.length < 17592186044416 by omega), w64 (x := ((m + 1 : Nat) : Int) - 1) (by omega) (by omega)]
      rw [show ((m + 1 : Nat) : Int) - 1 = (m : Int) by omega]
      exact hev
    · obtain ⟨ts, i', h', hev, q1, q2, q3⟩ := ih (acc ++ [cur]) cur i1 h1 (by simp; omega) hc (by
        intro x hx
        rcases List.mem_append.mp hx with hx | hx
        · exact ha x hx
        · rw [List.mem_singleton] at hx; omega) p1
      refine ⟨ts, i', h', Ev.step (fun k => by rw [spec_l03DrawCourse.l0]) ?_, by rw [q1]; simp; omega, q2, q3⟩
      simp only [if_pos (show ((m + 1 : Nat) : Int) > 0 by omega), ho, Option.bind_some, if_neg ca, if_pos (show acc.length < 17592186044416 by omega), w64 (x := ((m + 1 : Nat) : Int) - 1) (by omega) (by omega)]
      rw [show ((m + 1 : Nat) : Int) - 1 = (m : Int) by omega]
      exact hev
theorem size_ev (l : List Int) (hl : l.length ≤ 2000000) (a : Int) (ha : 2 ≤ a ∧ a ≤ 1000) : ∃ s, spec_l01Size.f l a = some s ∧ 2 ≤ s ∧ s ≤ a := by
  unfold spec_l01Size.f
  have hq : 0 ≤ (l.length : Int) / 16 ∧ (l.length : Int) / 16 ≤ 2000000 := by omega
  rw [w64 (x := (l.length : Int) / 16) (by omega) (by omega), w64 (x := 2 + (l.length : Int) / 16) (by omega) (by omega)]
  by_cases c : 2 + (l.length : Int) / 16 > a
  · rw [if_pos c]; exact ⟨a, rfl, by omega, by omega⟩
  · rw [if_neg c]; exact ⟨_, rfl, by omega, by omega⟩
/-- A right course. -/
theorem draw_right_course (l : List Int) (hl : l.length ≤ 2000000) : ∃ U D T c, Ev (fun k => spec_DrawRightCourse.f k l) (U, D, T, c) ∧ (1 ≤ U ∧ U ≤ 60) ∧ (1 ≤ D ∧ D ≤ 120) ∧ (2 ≤ T ∧ T ≤ 51) ∧ (1 ≤ c.length ∧ c.length ≤ 26) ∧ ∀ x ∈ c, 1 ≤ x ∧ x ≤ 60 := by
  obtain ⟨h0, e0⟩ := new_ev l hl
  obtain ⟨U, D, T, i1, h1, e1, bU, bD, bT, p1⟩ := draw_motor_ev l hl 0 h0 (pl0 l)
  obtain ⟨s, es, s1, s2⟩ := size_ev l hl 24 (by omega)
  obtain ⟨a, i2, h2, e2, b2, p2⟩ := below_pos l hl i1 h1 p1 40 (by omega) (by omega)
  obtain ⟨b, i3, h3, e3, b3, p3⟩ := below_pos l hl i2 h2 p2 (2 + s) (by omega) (by omega)
  obtain ⟨c, i', h', ec, q1, q2, q3⟩ := draw_course_loop l hl (1 + b).toNat [] (3 + a) i3 h3 (by simp; omega) (by omega) (by simp) p3
  refine ⟨U, D, T, c, ?_, bU, bD, bT, by rw [q1]; simp; omega, q2⟩
  unfold spec_DrawRightCourse.f
  refine Ev.bind e0 ?_
  simp only [e1, es, Option.bind_some, w64 (x := 2 + s) (by omega) (by omega)]
  have ed : Ev (fun k => spec_l03DrawCourse.f k l i1 h1 (2 + s)) (c, i', h') := by
    unfold spec_l03DrawCourse.f
    simp only [e2, e3, Option.bind_some, w64 (x := 3 + a) (by omega) (by omega), w64 (x := 1 + b) (by omega) (by omega)]
    rw [show ((1 + b).toNat : Int) = 1 + b by omega] at ec
    exact ec
  exact Ev.bind ed ev_some
theorem right_motB {U D T : Int} (bU : 1 ≤ U ∧ U ≤ 60) (bD : 1 ≤ D ∧ D ≤ 120) (bT : 2 ≤ T ∧ T ≤ 51) : motB U D T = true := by
  unfold motB
  rw [decide_eq_true (show 1 ≤ U ∧ U ≤ 200 by omega), decide_eq_true (show 1 ≤ D ∧ D ≤ 400 by omega), decide_eq_true (show 1 ≤ T ∧ T ≤ 90 by omega)]; rfl
theorem right_crsB {c : List Int} (hn : 1 ≤ c.length ∧ c.length ≤ 26) (hc : ∀ x ∈ c, 1 ≤ x ∧ x ≤ 60) : crsB c = true := by
  unfold crsB
  rw [decide_eq_true (show 1 ≤ c.length ∧ c.length ≤ 200 by omega), Bool.true_and, List.all_eq_true]
  intro x hx
  have := hc x hx
  exact decide_eq_true (by omega)
theorem at_nonneg (l : List Int) (hl : l.length ≤ 2000000) (hb : ∀ x ∈ l, (Lit.int .u8 x).wf = true) (i : Nat) (hi : i ≤ 1000) : ∃ r, laws_at.f l (i : Int) = some r ∧ 0 ≤ r ∧ r ≤ 255 := by
  unfold laws_at.f
  by_cases c : i < l.length
  · rw [if_pos (show (i : Int) < (l.length : Int) by omega), if_pos (show 0 ≤ (i : Int) by omega), rdI_at]
    have hm : l.getD i 0 ∈ l := by
      rw [List.getD_eq_getElem?_getD, List.getElem?_eq_getElem c]; exact List.getElem_mem c
    have := wf_u8 (hb _ hm)
    rw [w64 (by omega) (by omega)]
    exact ⟨_, rfl, by omega, by omega⟩
  · rw [if_neg (show ¬ (i : Int) < (l.length : Int) by omega)]
    rw [w64 (x := (i : Int) * 11) (by omega) (by omega), w64 (x := (l.length : Int) * 3) (by omega) (by omega), w64 (by omega) (by omega)]
    refine ⟨_, rfl, ?_⟩
    rw [Int.tmod_eq_emod_of_nonneg (by omega)]
    omega
theorem FnFaster : laws_FnFaster.PureR := by
  intro l ⟨_, hb⟩
  refine Ev.rounds ?_
  unfold laws_FnFaster.f laws_big.f
  simp only [Option.bind_some, decide_eq_true_eq]
  by_cases h : (l.length : Int) > 1048576
  · simp only [if_pos h]; exact ev_some
  · simp only [if_neg h]
    have hll : l.length ≤ 2000000 := by omega
    obtain ⟨U, D, T, c, ed, bU, bD, bT, bl, bc⟩ := draw_right_course l hll
    have hm := right_motB bU bD bT
    have hc := right_crsB bl bc
    refine Ev.bind ed ?_
    have hrun := impl_run_ev U D T c (by omega)
    unfold runR at hrun
    rw [if_pos ⟨hm, hc⟩] at hrun
    have hpass := impl_Passing_ev U D T c (by omega)
    unfold passR at hpass
    rw [if_pos ⟨hm, hc⟩] at hpass
    have hbd := runV_bd hm hc
    refine Ev.bind hrun (Ev.bind hpass ?_)
    have hp1 : rd (passL U D T c) (c.length : Int) = runV U D T c := by
      rw [rdI_at]; exact map_at _ _ _ (by omega)
    have hp0 : rd (passL U D T c) 0 = 0 := by
      have := rdI_at (passL U D T c) 0
      rw [show ((0 : Nat) : Int) = 0 from rfl] at this
      rw [this]; exact map_at _ _ _ (by omega)
    simp only [if_neg (show ¬ runV U D T c < 0 by omega), passL_length, nat_w (show c.length ≤ 9223372036854775806 by omega), if_true, if_pos (show 0 ≤ (c.length : Int) by omega), if_pos (show (c.length : Int) < ((c.length + 1 : Nat) : Int) by omega), hp1, if_pos (show 0 < ((c.length + 1 : Nat) : Int) by omega), hp0, bne_self_eq_false]
    refine Ev.step (fun k => by rw [laws_FnFaster.j0]) ?_
    obtain ⟨q2, e2, b2⟩ := at_nonneg l hll hb 2 (by omega)
    obtain ⟨q3, e3, b3⟩ := at_nonneg l hll hb 3 (by omega)
    obtain ⟨q4, e4, b4⟩ := at_nonneg l hll hb 4 (by omega)
    obtain ⟨q5, e5, b5⟩ := at_nonneg l hll hb 5 (by omega)
    obtain ⟨q6, e6, b6⟩ := at_nonneg l hll hb 6 (by omega)
    obtain ⟨q7, e7, b7⟩ := at_nonneg l hll hb 7 (by omega)
    have e2' : laws_at.f l 2 = some q2 := e2
    have e3' : laws_at.f l 3 = some q3 := e3
    have e4' : laws_at.f l 4 = some q4 := e4
    have e5' : laws_at.f l 5 = some q5 := e5
    have e6' : laws_at.f l 6 = some q6 := e6
    have e7' : laws_at.f l 7 = some q7 := e7
    have m2 : 0 ≤ Int.tmod q2 20 ∧ Int.tmod q2 20 ≤ 19 := by rw [Int.tmod_eq_emod_of_nonneg (by omega)]; omega
    have m3 : 0 ≤ Int.tmod q3 20 ∧ Int.tmod q3 20 ≤ 19 := by rw [Int.tmod_eq_emod_of_nonneg (by omega)]; omega
    have m4 : 0 ≤ Int.tmod q4 20 ∧ Int.tmod q4 20 ≤ 19 := by rw [Int.tmod_eq_emod_of_nonneg (by omega)]; omega
    have m6 : 0 ≤ Int.tmod q6 20 ∧ Int.tmod q6 20 ≤ 19 := by rw [Int.tmod_eq_emod_of_nonneg (by omega)]; omega
    simp only [Bool.false_eq_true, if_false, e2', e3', e4', e5', e6', e7', Option.bind_some, w64 (x := U + Int.tmod q2 20) (by omega) (by omega), w64 (x := D + Int.tmod q3 20) (by omega) (by omega), w64 (x := T + Int.tmod q4 20) (by omega) (by omega)]
    -- the stronger motor
    have hm2 : motB (U + Int.tmod q2 20) (D + Int.tmod q3 20) (T + Int.tmod q4 20) = true := by
      unfold motB
      rw [Bool.and_eq_true, Bool.and_eq_true, decide_eq_true_eq, decide_eq_true_eq, decide_eq_true_eq]
      omega
    have hrun2 := impl_run_ev (U + Int.tmod q2 20) (D + Int.tmod q3 20) (T + Int.tmod q4 20) c (by omega)
    unfold runR at hrun2
    rw [if_pos ⟨hm2, hc⟩] at hrun2
    have hle := runV_mono hm hc (U' := U + Int.tmod q2 20) (D' := D + Int.tmod q3 20) (T' := T + Int.tmod q4 20) (by omega) (by omega) (by omega) rfl (fun i => Int.le_refl _)
    refine Ev.bind hrun2 ?_
    simp only [if_neg (show ¬ runV (U + Int.tmod q2 20) (D + Int.tmod q3 20) (T + Int.tmod q4 20) c > runV U D T c by omega), List.length_nil, if_pos (show 0 + c.length < 17592186044416 by omega), List.nil_append, if_neg (show ¬ (c.length : Int) = 0 by omega)]
    obtain ⟨j, ej, hj⟩ : ∃ j : Nat, Int.tmod q5 (c.length : Int) = (j : Int) ∧ j < c.length := by
      rw [Int.tmod_eq_emod_of_nonneg (by omega)]
      have h1 := Int.emod_nonneg q5 (show (c.length : Int) ≠ 0 by omega)
      have h2 := Int.emod_lt_of_pos q5 (show 0 < (c.length : Int) by omega)
      exact ⟨(q5 % (c.length : Int)).toNat, by omega, by omega⟩
    have hmem : c.getD j 0 ∈ c := by rw [List.getD_eq_getElem?_getD, List.getElem?_eq_getElem hj]; exact List.getElem_mem _
    have hcj := bc _ hmem
    simp only [ej, if_pos (show 0 ≤ (j : Int) by omega), if_pos (show (j : Int) < (c.length : Int) by omega), rdI_at, Int.toNat_natCast, w64 (x := c.getD j 0 + 1) (by omega) (by omega), w64 (x := c.getD j 0 + 1 + Int.tmod q6 20) (by omega) (by omega)]
    -- the higher limit
    have hc2 : crsB (c.set j (c.getD j 0 + 1 + Int.tmod q6 20)) = true := by
      unfold crsB
      rw [Bool.and_eq_true, decide_eq_true_eq, List.all_eq_true, List.length_set]
      refine ⟨by omega, fun x hx => ?_⟩
      rw [decide_eq_true_eq]
      rcases List.mem_or_eq_of_mem_set hx with h1 | h1
      · have := bc x h1; omega
      · omega
    have hrun3 := impl_run_ev U D T (c.set j (c.getD j 0 + 1 + Int.tmod q6 20)) (by rw [List.length_set]; omega)
    unfold runR at hrun3
    rw [if_pos ⟨hm, hc2⟩] at hrun3
    have hle3 := runV_mono (c' := c.set j (c.getD j 0 + 1 + Int.tmod q6 20)) hm hc (Int.le_refl U) (Int.le_refl D) (Int.le_refl T) (by rw [List.length_set]) (fun i => by
      rw [List.getD_eq_getElem?_getD, List.getD_eq_getElem?_getD]
      by_cases e : i = j
      · subst e
        rw [List.getElem?_set_self hj, List.getElem?_eq_getElem hj]
        simp only [Option.getD_some]
        have : c.getD i 0 = c[i] := by rw [List.getD_eq_getElem?_getD, List.getElem?_eq_getElem hj]; rfl
        omega
      · rw [List.getElem?_set_ne (fun h => e h.symm)]; exact Int.le_refl _)
    refine Ev.bind hrun3 ?_
    simp only [if_neg (show ¬ runV U D T (c.set j (c.getD j 0 + 1 + Int.tmod q6 20)) > runV U D T c by omega)]
    by_cases c2 : (c.length : Int) < 2
    · simp only [if_pos c2]
      have hst := impl_stop_ev U D T c 1 (by omega)
      unfold stopR at hst
      rw [if_neg (fun h => by have := h.2.2.2; omega)] at hst
      exact Ev.bind hst ev_some
    · simp only [if_neg c2, w64 (x := (c.length : Int) - 1) (by omega) (by omega), if_neg (show ¬ (c.length : Int) - 1 = 0 by omega)]
      obtain ⟨s, es, hs1, hs2⟩ : ∃ s : Nat, 1 + Int.tmod q7 ((c.length : Int) - 1) = (s : Int) ∧ 1 ≤ s ∧ s < c.length := by
        rw [Int.tmod_eq_emod_of_nonneg (by omega)]
        have h1 := Int.emod_nonneg q7 (show (c.length : Int) - 1 ≠ 0 by omega)
        have h2 := Int.emod_lt_of_pos q7 (show 0 < (c.length : Int) - 1 by omega)
        exact ⟨(1 + q7 % ((c.length : Int) - 1)).toNat, by omega, by omega, by omega⟩
      have hst := impl_stop_ev U D T c (s : Int) (by omega)
      unfold stopR at hst
      rw [if_pos ⟨hm, hc, by omega, by omega⟩, Int.toNat_natCast] at hst
      have hge := run_stop hm hc s hs1 hs2
      obtain ⟨t1, t2⟩ := crs_take hc s hs1 hs2
      have g1 := runV_bd hm t1
      have g2 := runV_bd hm t2
      have hr1 := impl_run_ev U D T (c.take s) (by rw [List.length_take]; omega)
      have hr2 := impl_run_ev U D T (c.drop s) (by rw [List.length_drop]; omega)
      unfold runR at hr1 hr2
      rw [if_pos ⟨hm, t1⟩] at hr1
      rw [if_pos ⟨hm, t2⟩] at hr2
      simp only [es, w64 (x := (s : Int)) (by omega) (by omega)]
      refine Ev.bind hst ?_
      simp only [if_pos (show runV U D T (c.take s) + runV U D T (c.drop s) ≥ runV U D T c from hge)]
      refine Ev.bind hst ?_
      simp only [if_pos (show 0 ≤ (s : Int) by omega), if_pos (show (s : Int) ≤ (c.length : Int) by omega), Int.toNat_natCast]
      refine Ev.bind hr1 (Ev.bind hr2 ?_)
      rw [w64 (by omega) (by omega), beq_self_eq_true]
      exact ev_some

end Go.Proofs.Ytmbonjljbienkaa.Pure
