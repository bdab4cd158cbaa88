/- The program's Forward returns what the reference's returns, for all numbers of blocks, lists of trains, places and aspects beyond. -/
import Derived.Test.YtcceefojngmpjaaRowFnExactForward
namespace Go.Proofs.Ytcceefojngmpjaa.Pure
open Go.RowKit Go.Proofs.Ytcceefojngmpjaa.PFnExactForward Go.Proofs.YtcceefojngmpjaaW.PrintWords Go.Proofs.YtcceefojngmpjaaW.PrintLast Go.Proofs.YtcceefojngmpjaaW.PrintMore
set_option linter.unusedVariables false
set_option linter.unusedSimpArgs false
theorem w64 {x : Int} (h0 : -9223372036854775808 ≤ x) (h1 : x ≤ 9223372036854775807) : wrap64 x = x := by unfold wrap64; omega
theorem ev_k {α : Type} {g : Nat → Option α} {r : α} (h : ∀ k, g k = some r) : Ev g r := ⟨0, fun k _ => h k⟩
theorem ev_some {α : Type} {r : α} : Ev (fun _ => some r) r := Ev.now r
theorem wf_i64 {x : Int} (h : (Lit.int .i64 x).wf = true) : -9223372036854775808 ≤ x ∧ x ≤ 9223372036854775807 := by
  simp only [Lit.wf, Bool.and_eq_true, decide_eq_true_eq] at h
  have h1 : IntKind.min .i64 = -9223372036854775808 := by decide
  have h2 : IntKind.max .i64 = 9223372036854775807 := by decide
  omega
theorem wf_u8 {x : Int} (h : (Lit.int .u8 x).wf = true) : 0 ≤ x ∧ x ≤ 255 := by
  simp only [Lit.wf, Bool.and_eq_true, decide_eq_true_eq] at h
  have h1 : IntKind.min .u8 = 0 := by decide
  have h2 : IntKind.max .u8 = 255 := by decide
  omega
theorem spec_in (x lo hi : Int) : spec_l01In.f x lo hi = some (decide (lo ≤ x ∧ x ≤ hi)) := by
  unfold spec_l01In.f
  by_cases h : lo ≤ x <;> simp [h]
theorem impl_in (x lo hi : Int) : impl_between.f x lo hi = some (decide (lo ≤ x ∧ x ≤ hi)) := by
  unfold impl_between.f
  by_cases h : x ≥ lo
  · have h' : lo ≤ x := h
    simp [h, h']
  · have h' : ¬ lo ≤ x := h
    simp [h, h']
/-! Loops over lists, whatever the elements. -/
theorem nat_w {j : Nat} (h : j ≤ 9223372036854775806) : wrap64 ((j : Int) + 1) = ((j + 1 : Nat) : Int) := by rw [w64 (by omega) (by omega)]; omega
theorem set_take {α : Type} {acc ys : List α} {j : Nat} (hl : acc.length = ys.length) (ht : acc.take j = ys.take j) (hj : j < ys.length) {v : α} (hv : ys[j]? = some v) : (acc.set j v).take (j + 1) = ys.take (j + 1) := by
  apply List.ext_getElem?
  intro i
  by_cases hi : i < j + 1
  · rw [List.getElem?_take_of_lt hi, List.getElem?_take_of_lt hi]
    by_cases e : i = j
    · subst e
      rw [List.getElem?_set_self (by omega), hv]
    · rw [List.getElem?_set_ne (by omega)]
      have h1 := congrArg (fun l => l[i]?) ht
      simp only [List.getElem?_take_of_lt (show i < j by omega)] at h1
      exact h1
  · rw [List.getElem?_eq_none (by simp; omega), List.getElem?_eq_none (by simp; omega)]
theorem getD_some {α : Type} {xs : List α} {j : Nat} (h : j < xs.length) (d : α) : xs[j]? = some (xs.getD j d) := by
  rw [List.getD_eq_getElem?_getD, List.getElem?_eq_getElem h]; rfl
/-- A loop that writes g of each element of xs into a row of the same length. -/
theorem copy_loop {α β : Type} (g : β → α) (d : β) (xs : List β) (L : Nat → List α → Int → Option (List α)) (hn : xs.length ≤ 9223372036854775806)
    (hs : ∀ k acc (j : Nat), L (k + 1) acc (j : Int) = if j < xs.length then (if j < acc.length then L k (acc.set j (g (xs.getD j d))) (wrap64 ((j : Int) + 1)) else none) else some acc)
    (m : Nat) : ∀ (j : Nat) (acc : List α), xs.length - j = m → j ≤ xs.length → acc.length = xs.length → acc.take j = (xs.map g).take j → Ev (fun k => L k acc (j : Int)) (xs.map g) := by
  induction m with
  | zero =>
    intro j acc h0 h1 h2 h3
    refine Ev.step (fun k => hs k acc j) ?_
    simp only [if_neg (show ¬ j < xs.length by omega)]
    have e : acc = xs.map g := by
      have h4 : acc.take j = acc := List.take_of_length_le (by omega)
      have h5 : (xs.map g).take j = xs.map g := List.take_of_length_le (by simp; omega)
      rw [← h4, h3, h5]
    rw [e]
    exact ev_some
  | succ m ih =>
    intro j acc h0 h1 h2 h3
    refine Ev.step (fun k => hs k acc j) ?_
    simp only [if_pos (show j < xs.length by omega), if_pos (show j < acc.length by omega)]
    rw [nat_w (by omega)]
    refine ih (j + 1) _ (by omega) (by omega) (by simpa using h2) ?_
    refine set_take (by simpa using h2) h3 (by simp; omega) ?_
    rw [List.getElem?_map, getD_some (show j < xs.length by omega) d]
    rfl
/-- A loop that asks each index, and goes on where the answer is yes. -/
theorem all_loop (n : Nat) (L : Nat → Int → Option Bool) (hn : n ≤ 9223372036854775806) (hs : ∀ k (j : Nat), j < n → L (k + 1) (j : Int) = L k (wrap64 ((j : Int) + 1))) (he : ∀ k, L (k + 1) (n : Int) = some true)
    (m : Nat) : ∀ j : Nat, n - j = m → j ≤ n → Ev (fun k => L k (j : Int)) true := by
  induction m with
  | zero =>
    intro j h0 h1
    obtain rfl : j = n := by omega
    exact Ev.step (fun k => he k) ev_some
  | succ m ih =>
    intro j h0 h1
    refine Ev.step (fun k => hs k j (by omega)) ?_
    rw [nat_w (by omega)]
    exact ih (j + 1) (by omega) (by omega)
/-- The elements one behind the other, each turned by f with a number that goes on by c. -/
def marked {α : Type} (c : Int) (f : Int → α → α) : Int → List α → List α
  | _, [] => []
  | s, x :: xs => f s x :: marked c f (s + c) xs
theorem marked_length {α : Type} (c : Int) (f : Int → α → α) : ∀ (s : Int) (xs : List α), (marked c f s xs).length = xs.length
  | _, [] => rfl
  | s, x :: xs => by simp [marked, marked_length c f (s + c) xs]
theorem marked_at {α : Type} (c : Int) (f : Int → α → α) : ∀ (s : Int) (xs : List α) (j : Nat) (d : α), j < xs.length → (marked c f s xs)[j]? = some (f (s + c * j) (xs.getD j d))
  | _, [], j, d, h => by simp at h
  | s, x :: xs, 0, d, _ => by simp [marked]
  | s, x :: xs, j + 1, d, h => by
    have := marked_at c f (s + c) xs j d (by simpa using h)
    simp only [marked, List.getElem?_cons_succ, List.getD_cons_succ]
    rw [this]
    congr 2
    rw [Int.natCast_succ, Int.mul_add]; omega
/-- A loop that marks a row. -/
theorem mark_loop {α : Type} (c : Nat) (hc : c ≤ 8) (f : Int → α → α) (d : α) (xs : List α) (L : Nat → List α → Int → Int → Option (Int × List α)) (hn : xs.length ≤ 2000000) (s0 : Nat) (hs0 : s0 ≤ 20000000)
    (hs : ∀ k acc (s : Nat) (j : Nat), acc.length = xs.length → s ≤ 40000000 → j < xs.length → L (k + 1) acc (s : Int) (j : Int) = L k (acc.set j (f (s : Int) (acc.getD j d))) ((s + c : Nat) : Int) (wrap64 ((j : Int) + 1)))
    (he : ∀ k acc (s : Int), acc.length = xs.length → L (k + 1) acc s (xs.length : Int) = some (s, acc))
    (m : Nat) : ∀ (j : Nat) (acc : List α), xs.length - j = m → j ≤ xs.length → acc.length = xs.length → acc.take j = (marked c f s0 xs).take j → acc.drop j = xs.drop j → Ev (fun k => L k acc ((s0 + c * j : Nat) : Int) (j : Int)) (((s0 + c * xs.length : Nat) : Int), marked c f s0 xs) := by
  induction m with
  | zero =>
    intro j acc h0 h1 h2 h3 _
    obtain rfl : j = xs.length := by omega
    refine Ev.step (fun k => he k acc _ h2) ?_
    have e : acc = marked c f s0 xs := by
      have h4 : acc.take xs.length = acc := List.take_of_length_le (by omega)
      have h5 : (marked c f s0 xs).take xs.length = marked c f s0 xs := List.take_of_length_le (by rw [marked_length]; omega)
      rw [← h4, h3, h5]
    rw [e]
    exact ev_some
  | succ m ih =>
    intro j acc h0 h1 h2 h3 h4
    have hb : c * j ≤ 8 * 2000000 := Nat.mul_le_mul hc (by omega)
    refine Ev.step (fun k => hs k acc _ j h2 (by omega) (by omega)) ?_
    rw [nat_w (by omega), show s0 + c * j + c = s0 + c * (j + 1) by rw [Nat.mul_add]; omega]
    have hg : acc.getD j d = xs.getD j d := by
      have h5 := congrArg (fun l => l[0]?) h4
      simp only [List.getElem?_drop, Nat.add_zero] at h5
      rw [List.getD_eq_getElem?_getD, List.getD_eq_getElem?_getD, h5]
    refine ih (j + 1) _ (by omega) (by omega) (by simpa using h2) ?_ ?_
    · refine set_take (by rw [marked_length]; exact h2) h3 (by rw [marked_length]; omega) ?_
      rw [marked_at c f s0 xs j d (by omega), hg]
      simp
    · rw [List.drop_set_of_lt (by omega), ← List.drop_drop, h4, List.drop_drop]
/-- A loop that looks whether a row is marked so. -/
theorem held_loop (c : Nat) (hc : c ≤ 8) (n : Nat) (L : Nat → Int → Int → Option Int) (hn : n ≤ 2000000) (s0 : Nat) (hs0 : s0 ≤ 20000000)
    (hs : ∀ k (j : Nat), j < n → L (k + 1) ((s0 + c * j : Nat) : Int) (j : Int) = L k ((s0 + c * j + c : Nat) : Int) (wrap64 ((j : Int) + 1)))
    (he : ∀ k (s : Int), L (k + 1) s (n : Int) = some s)
    (m : Nat) : ∀ j : Nat, n - j = m → j ≤ n → Ev (fun k => L k ((s0 + c * j : Nat) : Int) (j : Int)) (((s0 + c * n : Nat) : Int)) := by
  induction m with
  | zero =>
    intro j h0 h1
    obtain rfl : j = n := by omega
    exact Ev.step (fun k => he k _) ev_some
  | succ m ih =>
    intro j h0 h1
    refine Ev.step (fun k => hs k j (by omega)) ?_
    rw [nat_w (by omega), show s0 + c * j + c = s0 + c * (j + 1) by rw [Nat.mul_add]; omega]
    exact ih (j + 1) (by omega) (by omega)
theorem drop_cons {α : Type} {xs : List α} {j : Nat} {t : α} {rest : List α} (h : xs.drop j = t :: rest) : j < xs.length ∧ (∀ d, xs.getD j d = t) ∧ xs.drop (j + 1) = rest := by
  have hj : j < xs.length := by
    rcases Nat.lt_or_ge j xs.length with h1 | h1
    · exact h1
    · rw [List.drop_of_length_le h1] at h; cases h
  rw [List.drop_eq_getElem_cons hj] at h
  injection h with h1 h2
  exact ⟨hj, fun d => by rw [List.getD_eq_getElem?_getD, List.getElem?_eq_getElem hj, ← h1]; rfl, h2⟩
theorem drop_nil {α : Type} {xs : List α} {j : Nat} (h : xs.drop j = []) : xs.length ≤ j := by simpa using h
theorem rdI_at (xs : List Int) (j : Nat) : rd xs (j : Int) = xs.getD j 0 := by unfold rd; rw [Int.toNat_natCast]
theorem rdB_at (xs : List Bool) (j : Nat) : rdOf false xs (j : Int) = xs.getD j false := by unfold rdOf; rw [Int.toNat_natCast]
theorem rdS_at (xs : List S49) (j : Nat) : rd_T49 xs (j : Int) = xs.getD j z49 := by unfold rd_T49; rw [Int.toNat_natCast]
def toS (t : S57) : S49 := ⟨t.f0, t.f1⟩
theorem toSpanS_ev (xs : List S57) (hn : xs.length ≤ 2000000) : Ev (fun k => laws_toSpanS.f k xs) (xs.map toS) := by
  unfold laws_toSpanS.f
  simp only [if_pos (show 0 ≤ (xs.length : Int) by omega), if_pos (show ((xs.length : Int)).toNat ≤ 17592186044416 by omega)]
  have h := copy_loop toS z57 xs (fun k acc i => laws_toSpanS.l0 k xs acc i) (by omega) (fun k acc j => by
    simp only [laws_toSpanS.l0, laws_toSpan.f, Option.bind_some, rd_T57, Int.toNat_natCast, if_pos (show 0 ≤ (j : Int) by omega), Int.ofNat_lt, toS]) xs.length 0 (List.replicate xs.length z49) (by omega) (by omega) (by simp) (by simp)
  simpa using h
theorem eqSpanS_ev (xs : List S49) (hn : xs.length ≤ 2000000) : Ev (fun k => laws_eqSpanS.f k xs xs) true := by
  unfold laws_eqSpanS.f
  simp only [if_true]
  refine all_loop xs.length (fun k i => laws_eqSpanS.l0 k xs xs i) (by omega) (fun k j hj => ?_) (fun k => ?_) xs.length 0 (by omega) (by omega)
  · simp [laws_eqSpanS.l0, hj, laws_eqSpan.f]
  · simp [laws_eqSpanS.l0]
theorem szSpanS_eq (xs : List S57) (hn : xs.length ≤ maxLen) : laws_szSpanS.f xs 1048576 = some (if 1048576 < (xs.length : Int) then -1 else 1048576 - (xs.length : Int)) := by
  unfold laws_szSpanS.f
  simp only [maxLen] at hn
  rw [w64 (by omega) (by omega)]
  by_cases h : 1048576 < (xs.length : Int)
  · simp only [if_pos h, if_pos (show 1048576 - (xs.length : Int) < 0 by omega)]
  · simp only [if_neg h, if_neg (show ¬ 1048576 - (xs.length : Int) < 0 by omega)]
/-- The trains stay in order behind 'last', on n blocks. -/
def okL (n : Int) : Int → List S49 → Bool
  | _, [] => true
  | last, t :: ts => if t.f0 ≤ last then false else if t.f1 < t.f0 then false else if t.f1 ≥ n then false else okL n t.f1 ts
def okT (n : Int) (ts : List S49) : Bool := decide (1 ≤ n ∧ n ≤ 100) && decide (ts.length ≤ 12) && okL n (-1) ts
theorem impl_ok_loop (n : Int) (xs : List S49) (hn : xs.length ≤ 2000000) : ∀ (rest : List S49) (j : Nat) (last : Int), xs.drop j = rest → Ev (fun k => impl_TrainsOk.l0 k n last xs (xs.length : Int) (j : Int)) (okL n last rest) := by
  intro rest
  induction rest with
  | nil =>
    intro j last h
    have := drop_nil h
    refine Ev.step (fun k => by rw [impl_TrainsOk.l0]) ?_
    simp only [if_neg (show ¬ (j : Int) < (xs.length : Int) by omega)]
    exact ev_some
  | cons t rest ih =>
    intro j last h
    obtain ⟨h1, h2, h3⟩ := drop_cons h
    refine Ev.step (fun k => by rw [impl_TrainsOk.l0]) ?_
    simp only [if_pos (show (j : Int) < (xs.length : Int) by omega), if_pos (show 0 ≤ (j : Int) by omega), rd_T49, Int.toNat_natCast, h2, nat_w (show j ≤ 9223372036854775806 by omega), okL]
    by_cases c1 : t.f0 ≤ last
    · simp only [if_pos c1]; exact ev_some
    · by_cases c2 : t.f1 < t.f0
      · simp only [if_neg c1, if_pos c2]; exact ev_some
      · by_cases c3 : t.f1 ≥ n
        · simp only [if_neg c1, if_neg c2, if_pos c3]; exact ev_some
        · simp only [if_neg c1, if_neg c2, if_neg c3]; exact ih (j + 1) _ h3
theorem spec_ok_loop (n : Int) (xs : List S49) (hn : xs.length ≤ 2000000) : ∀ (rest : List S49) (j : Nat) (last : Int), -1 ≤ last → xs.drop j = rest → Ev (fun k => spec_TrainsOk.l0 k n xs last (j : Int)) (okL n last rest) := by
  intro rest
  induction rest with
  | nil =>
    intro j last hl h
    have := drop_nil h
    refine Ev.step (fun k => by rw [spec_TrainsOk.l0]) ?_
    simp only [if_neg (show ¬ (j : Int) < (xs.length : Int) by omega)]
    exact ev_some
  | cons t rest ih =>
    intro j last hl h
    obtain ⟨h1, h2, h3⟩ := drop_cons h
    refine Ev.step (fun k => by rw [spec_TrainsOk.l0]) ?_
    simp only [if_pos (show (j : Int) < (xs.length : Int) by omega), if_pos (show 0 ≤ (j : Int) by omega), rd_T49, Int.toNat_natCast, h2, nat_w (show j ≤ 9223372036854775806 by omega), okL, spec_in, Option.bind_some, decide_eq_true_eq]
    by_cases c1 : t.f0 ≤ last
    · simp only [if_pos c1]; exact ev_some
    · by_cases c2 : t.f1 < t.f0
      · simp only [if_neg c1, if_pos c2, if_neg (show ¬ (0 ≤ t.f0 ∧ t.f0 ≤ t.f1) by omega)]; exact ev_some
      · by_cases c3 : t.f1 ≥ n
        · simp only [if_neg c1, if_neg c2, if_pos (show 0 ≤ t.f0 ∧ t.f0 ≤ t.f1 by omega), if_pos c3]; exact ev_some
        · simp only [if_neg c1, if_neg c2, if_pos (show 0 ≤ t.f0 ∧ t.f0 ≤ t.f1 by omega), if_neg c3]; exact ih (j + 1) _ (by omega) h3
theorem impl_ok_ev (n : Int) (xs : List S49) (hn : xs.length ≤ 2000000) : Ev (fun k => impl_TrainsOk.f k n xs) (okT n xs) := by
  unfold impl_TrainsOk.f okT
  simp only [impl_in, Option.bind_some]
  by_cases h : 1 ≤ n ∧ n ≤ 100
  · by_cases h2 : xs.length ≤ 12
    · have h3 := impl_ok_loop n xs hn xs 0 (-1) (by simp)
      simp only [h, and_self, decide_true, if_true, h2, Bool.true_and]
      refine Ev.step (fun k => by rw [impl_TrainsOk.j0]) ?_
      simpa [show ¬ (xs.length : Int) > 12 by omega] using h3
    · simp only [h, and_self, decide_true, if_true, h2, decide_false, Bool.and_false, Bool.false_and]
      refine Ev.step (fun k => by rw [impl_TrainsOk.j0]) ?_
      simpa [show (xs.length : Int) > 12 by omega] using ev_some
  · simp only [h, decide_false, Bool.false_eq_true, if_false, Bool.false_and]
    refine Ev.step (fun k => by rw [impl_TrainsOk.j0]) ?_
    simpa using ev_some
theorem spec_ok_ev (n : Int) (xs : List S49) (hn : xs.length ≤ 2000000) : Ev (fun k => spec_TrainsOk.f k n xs) (okT n xs) := by
  unfold spec_TrainsOk.f okT
  simp only [spec_in, Option.bind_some]
  by_cases h : 1 ≤ n ∧ n ≤ 100
  · by_cases h2 : xs.length ≤ 12
    · have h3 := spec_ok_loop n xs hn xs 0 (-1) (by omega) (by simp)
      simp only [h, and_self, decide_true, if_true, h2, Bool.true_and]
      refine Ev.step (fun k => by rw [spec_TrainsOk.j0]) ?_
      simpa [show ¬ (xs.length : Int) > 12 by omega] using h3
    · simp only [h, and_self, decide_true, if_true, h2, decide_false, Bool.and_false, Bool.false_and]
      refine Ev.step (fun k => by rw [spec_TrainsOk.j0]) ?_
      simpa [show (xs.length : Int) > 12 by omega] using ev_some
  · simp only [h, decide_false, Bool.false_eq_true, if_false, Bool.false_and]
    refine Ev.step (fun k => by rw [spec_TrainsOk.j0]) ?_
    simpa using ev_some
/-- Does a train lie on block b? -/
def cov (ts : List S49) (b : Int) : Bool := ts.any (fun t => decide (t.f0 ≤ b ∧ b ≤ t.f1))
def takenL (n : Int) (ts : List S49) : List Bool := (List.range n.toNat).map (fun b : Nat => cov ts (b : Int))
def takenR (n : Int) (ts : List S49) : List Bool := if okT n ts = true then takenL n ts else []
theorem takenL_length (n : Int) (ts : List S49) : (takenL n ts).length = n.toNat := by simp [takenL]
theorem okL_mem (n : Int) : ∀ (ts : List S49) (last : Int), okL n last ts = true → ∀ t ∈ ts, last < t.f0 ∧ t.f0 ≤ t.f1 ∧ t.f1 < n
  | [], _, _, t, ht => by simp at ht
  | x :: ts, last, h, t, ht => by
    simp only [okL] at h
    by_cases c1 : x.f0 ≤ last
    · simp [c1] at h
    · by_cases c2 : x.f1 < x.f0
      · simp [c1, c2] at h
      · by_cases c3 : x.f1 ≥ n
        · simp [c1, c2, c3] at h
        · rw [if_neg c1, if_neg c2, if_neg c3] at h
          rcases List.mem_cons.1 ht with rfl | ht
          · omega
          · have := okL_mem n ts x.f1 h t ht
            omega
theorem okT_spec {n : Int} {ts : List S49} (h : okT n ts = true) : (1 ≤ n ∧ n ≤ 100) ∧ ts.length ≤ 12 ∧ okL n (-1) ts = true := by
  unfold okT at h
  simp only [Bool.and_eq_true, decide_eq_true_eq] at h
  exact ⟨h.1.1, h.1.2, h.2⟩
theorem okT_mem {n : Int} {ts : List S49} (h : okT n ts = true) : ∀ t ∈ ts, 0 ≤ t.f0 ∧ t.f0 ≤ t.f1 ∧ t.f1 < n := fun t ht => by
  have := okL_mem n ts (-1) (okT_spec h).2.2 t ht
  omega
theorem range_set (n : Nat) (f : Nat → Bool) (p : Nat) (hp : p < n) : ((List.range n).map f).set p true = (List.range n).map (fun b => f b || decide (b = p)) := by
  apply List.ext_getElem?
  intro i
  by_cases hi : i < n
  · by_cases e : i = p
    · subst e
      rw [List.getElem?_set_self (by simpa using hi)]
      simp [hi]
    · rw [List.getElem?_set_ne (by omega)]
      simp [hi, e]
  · rw [List.getElem?_eq_none (by simp; omega), List.getElem?_eq_none (by simp; omega)]
theorem getD_mem {ts : List S49} {j : Nat} (h : j < ts.length) : ts.getD j z49 ∈ ts := by
  rw [List.getD_eq_getElem?_getD, List.getElem?_eq_getElem h]; exact List.getElem_mem _
theorem impl_taken_in (n : Nat) (ts : List S49) (hn : n ≤ 100) (j : Nat) (r0 r1 : Int) (h1 : r1 < n) (R : List Bool) (d : Nat) : ∀ (cur : Int) (f : Nat → Bool), (r1 + 1 - cur).toNat = d → 0 ≤ cur → cur ≤ 100 →
    Ev (fun k => impl_takenBy.l0 k ((List.range n).map (fun b : Nat => f b || decide (cur ≤ (b : Int) ∧ (b : Int) ≤ r1))) ts (ts.length : Int) (wrap64 ((j : Int) + 1))) R →
    Ev (fun k => impl_takenBy.l1 k ((List.range n).map f) cur ts (ts.length : Int) (j : Int) r0 r1) R := by
  induction d with
  | zero =>
    intro cur f hd h0 h2 hR
    refine Ev.step (fun k => by rw [impl_takenBy.l1]) ?_
    simp only [if_neg (show ¬ cur ≤ r1 by omega)]
    have e : (List.range n).map (fun b : Nat => f b || decide (cur ≤ (b : Int) ∧ (b : Int) ≤ r1)) = (List.range n).map f := by
      refine List.map_congr_left fun b _ => ?_
      rw [decide_eq_false (by omega), Bool.or_false]
    rw [e] at hR
    exact hR
  | succ d ih =>
    intro cur f hd h0 h2 hR
    refine Ev.step (fun k => by rw [impl_takenBy.l1]) ?_
    simp only [if_pos (show cur ≤ r1 by omega), if_pos h0, List.length_map, List.length_range, if_pos (show cur < (n : Int) by omega)]
    rw [w64 (x := cur + 1) (by omega) (by omega), range_set n f cur.toNat (by omega)]
    refine ih (cur + 1) _ (by omega) (by omega) (by omega) ?_
    have e : (List.range n).map (fun b : Nat => (f b || decide (b = cur.toNat)) || decide (cur + 1 ≤ (b : Int) ∧ (b : Int) ≤ r1)) = (List.range n).map (fun b : Nat => f b || decide (cur ≤ (b : Int) ∧ (b : Int) ≤ r1)) := by
      refine List.map_congr_left fun b _ => ?_
      rw [Bool.or_assoc]
      congr 1
      rw [Bool.eq_iff_iff]
      simp only [Bool.or_eq_true, decide_eq_true_eq]
      omega
    rw [e]
    exact hR
theorem impl_taken_out (n : Nat) (ts : List S49) (hn : n ≤ 100) (hl : ts.length ≤ 2000000) : ∀ (rest : List S49) (j : Nat) (f : Nat → Bool), ts.drop j = rest → (∀ t ∈ rest, 0 ≤ t.f0 ∧ t.f0 ≤ t.f1 ∧ t.f1 < n) →
    Ev (fun k => impl_takenBy.l0 k ((List.range n).map f) ts (ts.length : Int) (j : Int)) ((List.range n).map (fun b : Nat => f b || cov rest (b : Int))) := by
  intro rest
  induction rest with
  | nil =>
    intro j f h _
    have := drop_nil h
    refine Ev.step (fun k => by rw [impl_takenBy.l0]) ?_
    simp only [if_neg (show ¬ (j : Int) < (ts.length : Int) by omega), cov, List.any_nil, Bool.or_false]
    exact ev_some
  | cons t rest ih =>
    intro j f h hb
    obtain ⟨h1, h2, h3⟩ := drop_cons h
    have ht := hb t (by simp)
    refine Ev.step (fun k => by rw [impl_takenBy.l0]) ?_
    simp only [if_pos (show (j : Int) < (ts.length : Int) by omega), if_pos (show 0 ≤ (j : Int) by omega), rd_T49, Int.toNat_natCast, h2]
    refine impl_taken_in n ts hn j t.f0 t.f1 ht.2.2 _ _ t.f0 f rfl ht.1 (by omega) ?_
    rw [nat_w (by omega)]
    have := ih (j + 1) (fun b : Nat => f b || decide (t.f0 ≤ (b : Int) ∧ (b : Int) ≤ t.f1)) h3 (fun x hx => hb x (by simp [hx]))
    simpa [cov, Bool.or_assoc] using this
theorem impl_taken0_ev (n : Int) (ts : List S49) (h : okT n ts = true) : Ev (fun k => impl_takenBy.f k n ts) (takenL n ts) := by
  obtain ⟨h1, h2, h3⟩ := okT_spec h
  have hm := okT_mem h
  unfold impl_takenBy.f
  simp only [if_pos (show 0 ≤ n by omega), if_pos (show n.toNat ≤ 281474976710656 by omega)]
  have h4 := impl_taken_out n.toNat ts (by omega) (by omega) ts 0 (fun _ => false) (by simp) (fun t ht => by have := hm t ht; omega)
  have e : (List.range n.toNat).map (fun _ => false) = List.replicate n.toNat false := by
    apply List.ext_getElem?
    intro i
    by_cases hi : i < n.toNat <;> simp [hi, List.getElem?_replicate]
  rw [e] at h4
  simpa [takenL] using h4

/-- What Forward answers for a right list of trains, a place in it and an aspect beyond. -/
def fwd1 (n : Int) (ts : List S49) (j : Nat) (b : Int) : List S49 × Bool :=
  if (ts.getD j z49).f1 + 1 = n then (if b = 0 then ([], false) else (ts.take j ++ ts.drop (j + 1), true))
  else if cov ts ((ts.getD j z49).f1 + 1) = true then ([], false) else (ts.set j ⟨(ts.getD j z49).f0, (ts.getD j z49).f1 + 1⟩, true)
def forwardR (n : Int) (ts : List S49) (k b : Int) : List S49 × Bool := if okT n ts = true ∧ (0 ≤ k ∧ k < (ts.length : Int)) ∧ (0 ≤ b ∧ b ≤ 3) then fwd1 n ts k.toNat b else ([], false)
theorem takenL_at (n : Int) (ts : List S49) (p : Nat) (h : (p : Int) < n) : (takenL n ts).getD p false = cov ts (p : Int) := by
  unfold takenL
  rw [List.getD_eq_getElem?_getD, List.getElem?_map, List.getElem?_range (by omega)]; rfl
theorem impl_goOn_ev (n : Int) (ts : List S49) (h : okT n ts = true) (j : Nat) (hj : j < ts.length) (b : Int) : Ev (fun k => impl_goOn.f k n ts (j : Int) b) (fwd1 n ts j b) := by
  have hm := okT_mem h _ (getD_mem hj)
  have hs := okT_spec h
  unfold impl_goOn.f fwd1
  simp only [if_pos (show 0 ≤ (j : Int) by omega), if_pos (show (j : Int) < (ts.length : Int) by omega), rdS_at, Int.toNat_natCast, Option.bind_some, List.nil_append, List.length_nil, w64 (x := (ts.getD j z49).f1 + 1) (by omega) (by omega), nat_w (show j ≤ 9223372036854775806 by omega)]
  by_cases c1 : (ts.getD j z49).f1 + 1 = n
  · simp only [if_pos c1]
    by_cases c2 : b = 0
    · simp only [if_pos c2]; exact ev_some
    · simp only [if_neg c2, if_pos (show (j : Int) ≤ (ts.length : Int) by omega), if_pos (show 0 + (ts.take j).length < 8796093022208 by simp; omega), if_pos (show 0 ≤ ((j + 1 : Nat) : Int) by omega), if_pos (show ((j + 1 : Nat) : Int) ≤ (ts.length : Int) by omega), if_pos (show (ts.take j).length + (ts.drop (j + 1)).length < 8796093022208 by simp; omega)]
      exact ev_some
  · simp only [if_neg c1]
    refine Ev.bind (impl_taken0_ev n ts h) ?_
    have hlen := takenL_length n ts
    simp only [if_pos (show 0 ≤ (ts.getD j z49).f1 + 1 by omega), if_pos (show (ts.getD j z49).f1 + 1 < ((takenL n ts).length : Int) by omega)]
    have ht := takenL_at n ts ((ts.getD j z49).f1 + 1).toNat (by omega)
    rw [show ((((ts.getD j z49).f1 + 1).toNat : Nat) : Int) = (ts.getD j z49).f1 + 1 by omega] at ht
    have hrd : rdOf false (takenL n ts) ((ts.getD j z49).f1 + 1) = cov ts ((ts.getD j z49).f1 + 1) := ht
    simp only [hrd]
    by_cases c2 : cov ts ((ts.getD j z49).f1 + 1) = true
    · simp only [if_pos c2]; exact ev_some
    · simp only [if_neg c2, if_pos (show 0 + ts.length < 8796093022208 by omega)]
      exact ev_some
theorem impl_forward_ev (n : Int) (ts : List S49) (k0 b : Int) (hl : ts.length ≤ 2000000) : Ev (fun k => impl_Forward.f k n ts k0 b) (forwardR n ts k0 b) := by
  unfold impl_Forward.f forwardR
  refine Ev.bind (impl_ok_ev n ts hl) ?_
  by_cases h : okT n ts = true
  · simp only [h, if_true, true_and, impl_in, Option.bind_some, decide_eq_true_eq]
    rw [w64 (x := (ts.length : Int) - 1) (by omega) (by omega)]
    by_cases hk : 0 ≤ k0 ∧ k0 < (ts.length : Int)
    · obtain ⟨j, rfl⟩ : ∃ j : Nat, k0 = j := ⟨k0.toNat, by omega⟩
      simp only [if_pos (show 0 ≤ (j : Int) ∧ (j : Int) ≤ (ts.length : Int) - 1 by omega)]
      simp only [hk, true_and, and_self, Int.toNat_natCast]
      by_cases hb : 0 ≤ b ∧ b ≤ 3
      · simp only [hb, and_self, if_true]
        exact Ev.bind (impl_goOn_ev n ts h j (by omega) b) ev_some
      · simp only [if_neg hb]
        exact ev_some
    · simp only [if_neg (show ¬ ((0 ≤ k0 ∧ k0 < (ts.length : Int)) ∧ 0 ≤ b ∧ b ≤ 3) from fun x => hk x.1), if_neg (show ¬ (0 ≤ k0 ∧ k0 ≤ (ts.length : Int) - 1) by omega)]
      exact ev_some
  · simp only [if_neg h, if_neg (show ¬ (okT n ts = true ∧ (0 ≤ k0 ∧ k0 < (ts.length : Int)) ∧ 0 ≤ b ∧ b ≤ 3) from fun x => h x.1)]
    exact ev_some
theorem spec_taken_in (n : Int) (ts : List S49) (hl : ts.length ≤ 2000000) (acc : List Bool) (ha : acc.length ≤ 1000) (b : Nat) (R : List Bool) : ∀ (rest : List S49) (j : Nat) (on : Bool), ts.drop j = rest →
    Ev (fun k => spec_TakenBy.l0 k n ts (acc ++ [on || cov rest (b : Int)]) (wrap64 ((b : Int) + 1))) R → Ev (fun k => spec_TakenBy.l1 k n ts acc (b : Int) on (j : Int)) R := by
  intro rest
  induction rest with
  | nil =>
    intro j on h hR
    have := drop_nil h
    refine Ev.step (fun k => by rw [spec_TakenBy.l1]) ?_
    simp only [if_neg (show ¬ (j : Int) < (ts.length : Int) by omega), if_pos (show acc.length < 140737488355328 by omega)]
    simpa [cov] using hR
  | cons t rest ih =>
    intro j on h hR
    obtain ⟨h1, h2, h3⟩ := drop_cons h
    refine Ev.step (fun k => by rw [spec_TakenBy.l1]) ?_
    simp only [if_pos (show (j : Int) < (ts.length : Int) by omega), if_pos (show 0 ≤ (j : Int) by omega), rd_T49, Int.toNat_natCast, h2, spec_in, Option.bind_some, decide_eq_true_eq, nat_w (show j ≤ 9223372036854775806 by omega)]
    by_cases c : t.f0 ≤ (b : Int) ∧ (b : Int) ≤ t.f1
    · simp only [if_pos c]
      refine ih (j + 1) true h3 ?_
      simpa [cov, c] using hR
    · simp only [if_neg c]
      refine ih (j + 1) on h3 ?_
      have hc : decide (t.f0 ≤ (b : Int) ∧ (b : Int) ≤ t.f1) = false := decide_eq_false c
      have e : cov (t :: rest) (b : Int) = cov rest (b : Int) := by simp only [cov, List.any_cons, hc, Bool.false_or]
      rw [e] at hR
      exact hR
theorem spec_taken_out (n : Nat) (ts : List S49) (hn : n ≤ 100) (hl : ts.length ≤ 2000000) (m : Nat) : ∀ j : Nat, n - j = m → j ≤ n → Ev (fun k => spec_TakenBy.l0 k (n : Int) ts ((List.range j).map (fun b : Nat => cov ts (b : Int))) (j : Int)) ((List.range n).map (fun b : Nat => cov ts (b : Int))) := by
  induction m with
  | zero =>
    intro j h0 h1
    obtain rfl : j = n := by omega
    refine Ev.step (fun k => by rw [spec_TakenBy.l0]) ?_
    simp only [if_neg (show ¬ (j : Int) < (j : Int) by omega)]
    exact ev_some
  | succ m ih =>
    intro j h0 h1
    refine Ev.step (fun k => by rw [spec_TakenBy.l0]) ?_
    simp only [if_pos (show (j : Int) < (n : Int) by omega)]
    refine spec_taken_in n ts hl _ (by simp; omega) j _ ts 0 false (by simp) ?_
    rw [nat_w (by omega)]
    have := ih (j + 1) (by omega) (by omega)
    rw [List.range_succ, List.map_append] at this
    simpa using this
theorem spec_taken_ev (n : Int) (ts : List S49) (hl : ts.length ≤ 2000000) : Ev (fun k => spec_TakenBy.f k n ts) (takenR n ts) := by
  unfold spec_TakenBy.f takenR
  refine Ev.bind (spec_ok_ev n ts hl) ?_
  by_cases h : okT n ts = true
  · simp only [if_pos h]
    obtain ⟨h1, h2, h3⟩ := okT_spec h
    have := spec_taken_out n.toNat ts (by omega) hl n.toNat 0 (by omega) (by omega)
    rw [show ((n.toNat : Nat) : Int) = n by omega] at this
    simpa [takenL] using this
  · simp only [if_neg h]
    exact ev_some
/-- How many are free from the head on. -/
def freeN : List Bool → Nat
  | [] => 0
  | true :: _ => 0
  | false :: xs => freeN xs + 1
theorem freeN_le : ∀ xs : List Bool, freeN xs ≤ xs.length
  | [] => by simp [freeN]
  | true :: xs => by simp [freeN]
  | false :: xs => by have := freeN_le xs; simp [freeN]; omega
/-- The aspect of the signal ahead of these blocks. -/
def asp (beyond : Int) : List Bool → Int
  | [] => beyond
  | true :: _ => 0
  | false :: xs => if asp beyond xs + 1 > 3 then 3 else asp beyond xs + 1
def aspL (beyond : Int) : List Bool → List Int
  | [] => []
  | b :: xs => asp beyond (b :: xs) :: aspL beyond xs
theorem aspL_length (beyond : Int) : ∀ xs, (aspL beyond xs).length = xs.length
  | [] => rfl
  | b :: xs => by simp [aspL, aspL_length beyond xs]
theorem asp_free (beyond : Int) (h0 : 0 ≤ beyond) (h3 : beyond ≤ 3) : ∀ xs : List Bool, asp beyond xs = if freeN xs = xs.length then (if (freeN xs : Int) + beyond > 3 then 3 else (freeN xs : Int) + beyond) else (if (freeN xs : Int) > 3 then 3 else (freeN xs : Int))
  | [] => by simp [asp, freeN]; omega
  | true :: xs => by simp [asp, freeN]
  | false :: xs => by
    have ih := asp_free beyond h0 h3 xs
    simp only [asp, freeN, List.length_cons]
    rw [ih]
    by_cases h : freeN xs = xs.length
    · simp only [if_pos h, if_pos (show freeN xs + 1 = xs.length + 1 by omega)]
      split <;> split <;> omega
    · simp only [if_neg h, if_neg (show ¬ freeN xs + 1 = xs.length + 1 by omega)]
      split <;> split <;> omega
theorem asp_bd (beyond : Int) (h0 : 0 ≤ beyond) (h3 : beyond ≤ 3) (xs : List Bool) : 0 ≤ asp beyond xs ∧ asp beyond xs ≤ 3 := by
  rw [asp_free beyond h0 h3]
  split <;> split <;> omega
theorem spec_free_loop (xs : List Bool) (hn : xs.length ≤ 2000000) (a : Nat) : ∀ (rest : List Bool) (j : Nat), xs.drop (a + j) = rest → a + j ≤ xs.length → Ev (fun k => spec_FreeFrom.l0 k xs (a : Int) (j : Int)) ((j + freeN rest : Nat) : Int) := by
  intro rest
  induction rest with
  | nil =>
    intro j h hl
    have := drop_nil h
    refine Ev.step (fun k => by rw [spec_FreeFrom.l0]) ?_
    rw [w64 (x := (a : Int) + j) (by omega) (by omega)]
    simp only [if_neg (show ¬ (a : Int) + j < (xs.length : Int) by omega)]
    exact ev_some
  | cons t rest ih =>
    intro j h hl
    obtain ⟨h1, h2, h3⟩ := drop_cons h
    refine Ev.step (fun k => by rw [spec_FreeFrom.l0]) ?_
    rw [w64 (x := (a : Int) + j) (by omega) (by omega), nat_w (by omega)]
    simp only [if_pos (show (a : Int) + j < (xs.length : Int) by omega), if_pos (show 0 ≤ (a : Int) + j by omega), rdOf, show ((a : Int) + j).toNat = a + j by omega, h2]
    cases t with
    | true => simpa [freeN] using ev_some
    | false =>
      have h4 := ih (j + 1) (by rw [← h3, Nat.add_assoc]) (by omega)
      simp only [freeN, Bool.false_eq_true, if_false]
      rw [show j + (freeN rest + 1) = j + 1 + freeN rest by omega]
      exact h4
theorem spec_free_ev (xs : List Bool) (hn : xs.length ≤ 100) (j : Nat) (hj : j < xs.length) : Ev (fun k => spec_FreeFrom.f k xs (j : Int)) ((freeN (xs.drop j) : Nat) : Int) := by
  unfold spec_FreeFrom.f
  simp only [if_neg (show ¬ (xs.length : Int) > 100 by omega), spec_in, Option.bind_some]
  rw [w64 (x := (xs.length : Int) - 1) (by omega) (by omega)]
  simp only [show (0 ≤ (j : Int) ∧ (j : Int) ≤ (xs.length : Int) - 1) by omega, and_self, decide_true, Bool.not_true]
  refine Ev.step (fun k => by rw [spec_FreeFrom.j0]) ?_
  simp only [Bool.false_eq_true, if_false]
  have h := spec_free_loop xs (by omega) j (xs.drop j) 0 rfl (by omega)
  simpa using h
theorem spec_asp_loop (xs : List Bool) (hn : xs.length ≤ 100) (b : Int) (h0 : 0 ≤ b) (h3 : b ≤ 3) : ∀ (rest : List Bool) (j : Nat) (acc : List Int), xs.drop j = rest → j ≤ xs.length → acc.length = j → Ev (fun k => spec_Aspects.l0 k xs b acc (j : Int)) (acc ++ aspL b rest) := by
  intro rest
  induction rest with
  | nil =>
    intro j acc h hj hl
    have := drop_nil h
    refine Ev.step (fun k => by rw [spec_Aspects.l0]) ?_
    simp only [if_neg (show ¬ (j : Int) < (xs.length : Int) by omega), aspL, List.append_nil]
    exact ev_some
  | cons t rest ih =>
    intro j acc h hj hl
    obtain ⟨h1, h2, hd⟩ := drop_cons h
    have hf := spec_free_ev xs hn j h1
    rw [h] at hf
    refine Ev.step (fun k => by rw [spec_Aspects.l0]) ?_
    simp only [if_pos (show (j : Int) < (xs.length : Int) by omega), nat_w (show j ≤ 9223372036854775806 by omega)]
    refine Ev.bind hf ?_
    have hle := freeN_le (t :: rest)
    have hlen : xs.length = j + (t :: rest).length := by rw [← h, List.length_drop]; omega
    have ha := asp_free b h0 h3 (t :: rest)
    rw [w64 (x := (j : Int) + (freeN (t :: rest) : Int)) (by omega) (by omega), w64 (x := (freeN (t :: rest) : Int) + b) (by omega) (by omega)]
    simp only [if_pos (show acc.length < 17592186044416 by omega)]
    have hgo := fun v => ih (j + 1) (acc ++ [v]) hd (by omega) (by simp; omega)
    have he : ∀ v, asp b (t :: rest) = v → acc ++ aspL b (t :: rest) = acc ++ [v] ++ aspL b rest := fun v hv => by rw [← hv]; simp [aspL]
    by_cases c1 : (j : Int) + (freeN (t :: rest) : Int) = (xs.length : Int)
    · rw [if_pos (by omega)] at ha
      simp only [if_pos c1]
      by_cases c2 : (freeN (t :: rest) : Int) + b > 3
      · rw [if_pos c2] at ha
        simp only [if_pos c2]
        rw [he _ ha]; exact hgo _
      · rw [if_neg c2] at ha
        simp only [if_neg c2]
        rw [he _ ha]; exact hgo _
    · rw [if_neg (by omega)] at ha
      simp only [if_neg c1]
      by_cases c2 : (freeN (t :: rest) : Int) > 3
      · rw [if_pos c2] at ha
        simp only [if_pos c2]
        rw [he _ ha]; exact hgo _
      · rw [if_neg c2] at ha
        simp only [if_neg c2]
        rw [he _ ha]; exact hgo _
/-- What Aspects answers. -/
def aspR (xs : List Bool) (b : Int) : List Int := if xs.length ≤ 100 ∧ 0 ≤ b ∧ b ≤ 3 then aspL b xs else []
theorem spec_aspects_ev (xs : List Bool) (hn : xs.length ≤ 2000000) (b : Int) : Ev (fun k => spec_Aspects.f k xs b) (aspR xs b) := by
  unfold spec_Aspects.f aspR
  by_cases h : xs.length ≤ 100
  · simp only [if_neg (show ¬ (xs.length : Int) > 100 by omega), spec_in, Option.bind_some]
    refine Ev.step (fun k => by rw [spec_Aspects.j0]) ?_
    by_cases hb : 0 ≤ b ∧ b ≤ 3
    · have h2 := spec_asp_loop xs h b hb.1 hb.2 xs 0 [] (by simp) (by omega) rfl
      simpa [hb, h] using h2
    · simpa [hb] using ev_some
  · simp only [if_pos (show (xs.length : Int) > 100 by omega), h, false_and, if_false]
    exact Ev.step (fun k => by rw [spec_Aspects.j0]) (by simpa using ev_some)
/-- The trains with another one at place k, or without it. -/
def putL (k : Int) (t : S49) (gone : Bool) : Nat → List S49 → List S49
  | _, [] => []
  | i, x :: xs => (if (i : Int) = k then (if gone = true then [] else [t]) else [x]) ++ putL k t gone (i + 1) xs
theorem putL_past (k : Int) (t : S49) (gone : Bool) : ∀ (i : Nat) (xs : List S49), k < (i : Int) → putL k t gone i xs = xs
  | _, [], _ => rfl
  | i, x :: xs, h => by
    simp only [putL, if_neg (show ¬ (i : Int) = k by omega)]
    rw [putL_past k t gone (i + 1) xs (by omega)]; rfl
theorem putL_gone (t : S49) : ∀ (xs : List S49) (i j : Nat), putL ((i + j : Nat) : Int) t true i xs = xs.take j ++ xs.drop (j + 1)
  | [], i, j => by simp [putL]
  | x :: xs, i, 0 => by
    simp only [putL, Nat.add_zero, if_true, List.take_zero, List.nil_append]
    rw [putL_past _ t true (i + 1) xs (by omega)]; simp
  | x :: xs, i, j + 1 => by
    simp only [putL, if_neg (show ¬ (i : Int) = ((i + (j + 1) : Nat) : Int) by omega)]
    have := putL_gone t xs (i + 1) j
    rw [show i + 1 + j = i + (j + 1) by omega] at this
    rw [this]; simp
theorem putL_set (t : S49) : ∀ (xs : List S49) (i j : Nat), putL ((i + j : Nat) : Int) t false i xs = xs.set j t
  | [], i, j => by simp [putL]
  | x :: xs, i, 0 => by
    simp only [putL, Nat.add_zero, if_true, Bool.false_eq_true, if_false]
    rw [putL_past _ t false (i + 1) xs (by omega)]; simp
  | x :: xs, i, j + 1 => by
    simp only [putL, if_neg (show ¬ (i : Int) = ((i + (j + 1) : Nat) : Int) by omega)]
    have := putL_set t xs (i + 1) j
    rw [show i + 1 + j = i + (j + 1) by omega] at this
    rw [this]; simp
theorem spec_put_loop (xs : List S49) (hn : xs.length ≤ 2000000) (k0 : Int) (t : S49) (gone : Bool) : ∀ (rest : List S49) (j : Nat) (acc : List S49), xs.drop j = rest → j ≤ xs.length → acc.length ≤ j → Ev (fun k => spec_l05Put.l0 k xs k0 gone acc (j : Int) t.f0 t.f1) (acc ++ putL k0 t gone j rest) := by
  intro rest
  induction rest with
  | nil =>
    intro j acc h hj hl
    have := drop_nil h
    refine Ev.step (fun k => by rw [spec_l05Put.l0]) ?_
    simp only [if_neg (show ¬ (j : Int) < (xs.length : Int) by omega), putL, List.append_nil]
    exact ev_some
  | cons x rest ih =>
    intro j acc h hj hl
    obtain ⟨h1, h2, h3⟩ := drop_cons h
    refine Ev.step (fun k => by rw [spec_l05Put.l0]) ?_
    simp only [if_pos (show (j : Int) < (xs.length : Int) by omega), if_pos (show 0 ≤ (j : Int) by omega), rdS_at, h2, nat_w (show j ≤ 9223372036854775806 by omega), if_pos (show acc.length < 8796093022208 by omega), putL]
    by_cases c : (j : Int) = k0
    · simp only [if_pos c]
      by_cases g : gone = true
      · simp only [if_pos g, List.nil_append]
        exact ih (j + 1) acc h3 (by omega) (by omega)
      · simp only [if_neg g]
        have := ih (j + 1) (acc ++ [t]) h3 (by omega) (by simp; omega)
        rw [List.append_assoc] at this
        exact this
    · simp only [if_neg c]
      have := ih (j + 1) (acc ++ [x]) h3 (by omega) (by simp; omega)
      rw [List.append_assoc] at this
      exact this
theorem spec_put_ev (xs : List S49) (hn : xs.length ≤ 2000000) (k0 : Int) (t : S49) (gone : Bool) : Ev (fun k => spec_l05Put.f k xs k0 t.f0 t.f1 gone) (putL k0 t gone 0 xs) := by
  unfold spec_l05Put.f
  have := spec_put_loop xs hn k0 t gone xs 0 [] (by simp) (by omega) (by simp)
  simpa using this
theorem aspL_at (b : Int) : ∀ (xs : List Bool) (j : Nat), j < xs.length → (aspL b xs).getD j 0 = asp b (xs.drop j)
  | [], j, h => by simp at h
  | x :: xs, 0, _ => rfl
  | x :: xs, j + 1, h => by simpa [aspL] using aspL_at b xs j (by simpa using h)
theorem asp_red (b : Int) (h0 : 0 ≤ b) (h3 : b ≤ 3) : ∀ (xs : List Bool), (asp b xs = 0) ↔ (match xs with | [] => b = 0 | x :: _ => x = true)
  | [] => by simp [asp]
  | true :: xs => by simp [asp]
  | false :: xs => by
    have := asp_bd b h0 h3 xs
    simp only [asp]
    split <;> simp <;> omega
theorem spec_forward_ev (n : Int) (ts : List S49) (k0 b : Int) (hl : ts.length ≤ 2000000) : Ev (fun k => spec_Forward.f k n ts k0 b) (forwardR n ts k0 b) := by
  unfold spec_Forward.f forwardR
  refine Ev.bind (spec_ok_ev n ts hl) ?_
  by_cases h : okT n ts = true
  · simp only [h, if_true, true_and, spec_in, Option.bind_some, decide_eq_true_eq]
    rw [w64 (x := (ts.length : Int) - 1) (by omega) (by omega)]
    by_cases hk : 0 ≤ k0 ∧ k0 < (ts.length : Int)
    · obtain ⟨j, rfl⟩ : ∃ j : Nat, k0 = j := ⟨k0.toNat, by omega⟩
      have hj : j < ts.length := by omega
      have hm := okT_mem h _ (getD_mem hj)
      have hs := okT_spec h
      simp only [if_pos (show 0 ≤ (j : Int) ∧ (j : Int) ≤ (ts.length : Int) - 1 by omega)]
      simp only [hk, true_and, and_self, Int.toNat_natCast]
      refine Ev.step (fun k => by rw [spec_Forward.j0]) ?_
      by_cases hb : 0 ≤ b ∧ b ≤ 3
      · simp only [hb, and_self, decide_true, Bool.not_true, Bool.false_eq_true, if_false, if_true, if_pos (show 0 ≤ (j : Int) by omega), if_pos (show (j : Int) < (ts.length : Int) by omega), rdS_at, fwd1]
        rw [w64 (x := n - 1) (by omega) (by omega), w64 (x := (ts.getD j z49).f1 + 1) (by omega) (by omega)]
        by_cases c1 : (ts.getD j z49).f1 = n - 1
        · simp only [if_pos c1, if_pos (show (ts.getD j z49).f1 + 1 = n by omega)]
          by_cases c2 : b = 0
          · simp only [if_pos c2]; exact ev_some
          · simp only [if_neg c2]
            have hp := spec_put_ev ts hl (j : Int) (ts.getD j z49) true
            have he := putL_gone (ts.getD j z49) ts 0 j
            rw [Nat.zero_add] at he
            rw [he] at hp
            exact Ev.bind hp ev_some
        · simp only [if_neg c1, if_neg (show ¬ (ts.getD j z49).f1 + 1 = n by omega)]
          refine Ev.bind (spec_taken_ev n ts hl) ?_
          have htr : takenR n ts = takenL n ts := by unfold takenR; rw [if_pos h]
          have hlen := takenL_length n ts
          rw [htr]
          refine Ev.bind (spec_aspects_ev _ (by omega) b) ?_
          have har : aspR (takenL n ts) b = aspL b (takenL n ts) := by unfold aspR; rw [if_pos ⟨by omega, hb.1, hb.2⟩]
          rw [har]
          have hal := aspL_length b (takenL n ts)
          simp only [if_pos (show 0 ≤ (ts.getD j z49).f1 + 1 by omega), if_pos (show (ts.getD j z49).f1 + 1 < ((aspL b (takenL n ts)).length : Int) by omega)]
          obtain ⟨p, hp⟩ : ∃ p : Nat, (ts.getD j z49).f1 + 1 = p := ⟨((ts.getD j z49).f1 + 1).toNat, by omega⟩
          have hpl : p < (takenL n ts).length := by omega
          simp only [hp, rdI_at, aspL_at b _ p hpl]
          have hd : (takenL n ts).drop p = (takenL n ts)[p]'hpl :: (takenL n ts).drop (p + 1) := List.drop_eq_getElem_cons hpl
          have hr := asp_red b hb.1 hb.2 ((takenL n ts).drop p)
          rw [hd] at hr
          simp only at hr
          rw [← hd] at hr
          have hc : (takenL n ts)[p]'hpl = cov ts (p : Int) := by
            rw [← takenL_at n ts p (by omega), List.getD_eq_getElem?_getD, List.getElem?_eq_getElem hpl]; rfl
          rw [hc] at hr
          by_cases c2 : cov ts (p : Int) = true
          · simp only [if_pos (hr.2 c2), if_pos c2]; exact ev_some
          · simp only [if_neg (show ¬ asp b ((takenL n ts).drop p) = 0 from fun x => c2 (hr.1 x)), if_neg c2]
            have hq := spec_put_ev ts hl (j : Int) ⟨(ts.getD j z49).f0, (p : Int)⟩ false
            have he := putL_set ⟨(ts.getD j z49).f0, (p : Int)⟩ ts 0 j
            rw [Nat.zero_add] at he
            rw [he] at hq
            exact Ev.bind hq ev_some
      · simp only [hb, decide_false, Bool.not_false, if_true, if_false]
        exact ev_some
    · simp only [if_neg (show ¬ ((0 ≤ k0 ∧ k0 < (ts.length : Int)) ∧ 0 ≤ b ∧ b ≤ 3) from fun x => hk x.1), if_neg (show ¬ (0 ≤ k0 ∧ k0 ≤ (ts.length : Int) - 1) by omega)]
      refine Ev.step (fun k => by rw [spec_Forward.j0]) ?_
      simp only [if_true]
      exact ev_some
  · simp only [if_neg h, if_neg (show ¬ (okT n ts = true ∧ (0 ≤ k0 ∧ k0 < (ts.length : Int)) ∧ 0 ≤ b ∧ b ≤ 3) from fun x => h x.1)]
    refine Ev.step (fun k => by rw [spec_Forward.j0]) ?_
    simp only [if_true]
    exact ev_some
def markS (s : Int) (_ : S49) : S49 := ⟨s, s + 1⟩
theorem set_set' {α : Type} (xs : List α) (j : Nat) (a b : α) : (xs.set j a).set j b = xs.set j b := by simp
theorem markSpanS_ev (xs : List S49) (hn : xs.length ≤ 2000000) (s : Nat) (hs : s ≤ 20000000) : Ev (fun k => laws_markSpanS.f k xs (s : Int)) (((s + 2 * xs.length : Nat) : Int), marked 2 markS s xs) := by
  unfold laws_markSpanS.f
  have h := mark_loop 2 (by omega) markS z49 xs (fun k acc s i => laws_markSpanS.l0 k acc s i) hn s hs
    (fun k acc s j h1 h2 h3 => by
      have hg : (acc.set j (⟨(s : Int), (rd_T49 acc (j : Int)).f1⟩ : S49)).getD j z49 = ⟨(s : Int), (rd_T49 acc (j : Int)).f1⟩ := by
        rw [List.getD_eq_getElem?_getD, List.getElem?_set_self (by omega)]; rfl
      simp only [laws_markSpanS.l0, h1, if_pos (show (j : Int) < (xs.length : Int) by omega), if_pos (show 0 ≤ (j : Int) by omega), Int.toNat_natCast, Option.bind_some, markS]
      rw [w64 (x := (s : Int) + 1) (by omega) (by omega), w64 (x := (s : Int) + 1 + 1) (by omega) (by omega)]
      rw [show rd_T49 (acc.set j (⟨(s : Int), (rd_T49 acc (j : Int)).f1⟩ : S49)) (j : Int) = ⟨(s : Int), (rd_T49 acc (j : Int)).f1⟩ from by unfold rd_T49; rw [Int.toNat_natCast]; exact hg]
      rw [set_set']
      rw [show (s : Int) + 1 + 1 = ((s + 2 : Nat) : Int) by omega])
    (fun k acc s h1 => by simp [laws_markSpanS.l0, h1]) xs.length 0 xs (by omega) (by omega) rfl (by simp) rfl
  simpa using h
theorem heldSpanS_ev (xs : List S49) (hn : xs.length ≤ 2000000) (s : Nat) (hs : s ≤ 20000000) : Ev (fun k => laws_heldSpanS.f k (marked 2 markS s xs) (s : Int)) ((s + 2 * xs.length : Nat) : Int) := by
  unfold laws_heldSpanS.f
  have hl := marked_length 2 markS s xs
  have h := held_loop 2 (by omega) xs.length (fun k s' i => laws_heldSpanS.l0 k (marked 2 markS s xs) s' i) hn s hs
    (fun k j hj => by
      have hm := marked_at 2 markS s xs j z49 hj
      simp only [laws_heldSpanS.l0, hl, if_pos (show (j : Int) < (xs.length : Int) by omega), if_pos (show 0 ≤ (j : Int) by omega), rd_T49, Int.toNat_natCast, List.getD_eq_getElem?_getD, hm, Option.getD_some, markS]
      rw [w64 (x := ((s + 2 * j : Nat) : Int) + 1) (by omega) (by omega), w64 (x := ((s + 2 * j : Nat) : Int) + 1 + 1) (by omega) (by omega), if_pos (by omega), if_pos (by omega)]
      rw [show ((s + 2 * j : Nat) : Int) + 1 + 1 = ((s + 2 * j + 2 : Nat) : Int) by omega])
    (fun k s' => by simp [laws_heldSpanS.l0, hl]) xs.length 0 (by omega) (by omega)
  simpa using h
theorem forwardR_length (n : Int) (ts : List S49) (k b : Int) : (forwardR n ts k b).1.length ≤ ts.length := by
  unfold forwardR
  split
  · unfold fwd1; split
    · split
      · simp
      · simp; omega
    · split <;> simp
  · simp
theorem FnExactForward : laws_FnExactForward.Pure := by
  intro n xs k0 b hw hx hk hb
  refine Ev.rounds ?_
  unfold laws_FnExactForward.f
  simp only [szSpanS_eq xs hx.1, Option.bind_some]
  by_cases h : 1048576 < (xs.length : Int)
  · simp only [if_pos h]; exact ev_some
  · simp only [if_neg h, if_neg (show ¬ 1048576 - (xs.length : Int) < 0 by omega)]
    have hn : xs.length ≤ 2000000 := by omega
    have hm : (xs.map toS).length ≤ 2000000 := by simpa using hn
    have hr : (forwardR n (xs.map toS) k0 b).1.length ≤ 2000000 := Nat.le_trans (forwardR_length n (xs.map toS) k0 b) hm
    refine Ev.bind (toSpanS_ev xs hn) (Ev.bind (spec_forward_ev n _ k0 b hm) (Ev.bind (toSpanS_ev xs hn) (Ev.bind (impl_forward_ev n _ k0 b hm) (Ev.bind (eqSpanS_ev _ hr) ?_))))
    simp only [if_true, bne_self_eq_false]
    refine Ev.step (fun k => by rw [laws_FnExactForward.j0]) ?_
    simp only [Bool.false_eq_true, if_false]
    refine Ev.bind (toSpanS_ev xs hn) (Ev.bind (eqSpanS_ev _ hm) ?_)
    simp only [if_true]
    refine Ev.bind (markSpanS_ev _ hm 1 (by omega)) ?_
    simp only [if_neg (show ¬ ((1 + 2 * (xs.map toS).length : Nat) : Int) < 0 by omega)]
    refine Ev.bind (eqSpanS_ev _ hr) ?_
    simp only [if_true, bne_self_eq_false]
    refine Ev.step (fun k => by rw [laws_FnExactForward.j1]) ?_
    simp only [Bool.false_eq_true, if_false]
    refine Ev.bind (markSpanS_ev _ hr 1 (by omega)) (Ev.bind (heldSpanS_ev _ hr 1 (by omega)) ?_)
    simp only [if_neg (show ¬ ((1 + 2 * (forwardR n (xs.map toS) k0 b).1.length : Nat) : Int) < 0 by omega), if_true]
    refine Ev.bind (toSpanS_ev xs hn) (Ev.bind (impl_forward_ev n _ k0 b hm) (Ev.bind (eqSpanS_ev _ hr) ?_))
    simp only [if_true, bne_self_eq_false]
    refine Ev.step (fun k => by rw [laws_FnExactForward.j2]) ?_
    simp only [Bool.false_eq_true, if_false]
    refine Ev.bind (heldSpanS_ev _ hr 1 (by omega)) ?_
    simp only [if_neg (show ¬ ((1 + 2 * (forwardR n (xs.map toS) k0 b).1.length : Nat) : Int) < 0 by omega), if_true]
    exact ev_some

end Go.Proofs.Ytcceefojngmpjaa.Pure
