/- The program's Shrink returns what the reference's returns, for all numbers of blocks, lists of trains and places. -/
import Derived.Test.YtcceefojngmpjaaRowFnExactShrink
namespace Go.Proofs.Ytcceefojngmpjaa.Pure
open Go.RowKit Go.Proofs.Ytcceefojngmpjaa.PFnExactShrink Go.Proofs.YtcceefojngmpjaaW.PrintWords Go.Proofs.YtcceefojngmpjaaW.PrintLast Go.Proofs.YtcceefojngmpjaaW.PrintMore
set_option linter.unusedVariables false
set_option linter.unusedSimpArgs false
theorem w64 {x : Int} (h0 : -9223372036854775808 ≤ x) (h1 : x ≤ 9223372036854775807) : wrap64 x = x := by unfold wrap64; omega
theorem ev_k {α : Type} {g : Nat → Option α} {r : α} (h : ∀ k, g k = some r) : Ev g r := ⟨0, fun k _ => h k⟩
theorem ev_some {α : Type} {r : α} : Ev (fun _ => some r) r := Ev.now r
theorem wf_i64 {x : Int} (h : (Lit.int .i64 x).wf = true) : -9223372036854775808 ≤ x ∧ x ≤ 9223372036854775807 := by
  simp only [Lit.wf, Bool.and_eq_true, decide_eq_true_eq] at h
  have h1 : IntKind.min .i64 = -9223372036854775808 := by decide
  have h2 : IntKind.max .i64 = 9223372036854775807 := by decide
  omega
theorem wf_u8 {x : Int} (h : (Lit.int .u8 x).wf = true) : 0 ≤ x ∧ x ≤ 255 := by
  simp only [Lit.wf, Bool.and_eq_true, decide_eq_true_eq] at h
  have h1 : IntKind.min .u8 = 0 := by decide
  have h2 : IntKind.max .u8 = 255 := by decide
  omega
theorem spec_in (x lo hi : Int) : spec_l01In.f x lo hi = some (decide (lo ≤ x ∧ x ≤ hi)) := by
  unfold spec_l01In.f
  by_cases h : lo ≤ x <;> simp [h]
theorem impl_in (x lo hi : Int) : impl_between.f x lo hi = some (decide (lo ≤ x ∧ x ≤ hi)) := by
  unfold impl_between.f
  by_cases h : x ≥ lo
  · have h' : lo ≤ x := h
    simp [h, h']
  · have h' : ¬ lo ≤ x := h
    simp [h, h']
/-! Loops over lists, whatever the elements. -/
theorem nat_w {j : Nat} (h : j ≤ 9223372036854775806) : wrap64 ((j : Int) + 1) = ((j + 1 : Nat) : Int) := by rw [w64 (by omega) (by omega)]; omega
theorem set_take {α : Type} {acc ys : List α} {j : Nat} (hl : acc.length = ys.length) (ht : acc.take j = ys.take j) (hj : j < ys.length) {v : α} (hv : ys[j]? = some v) : (acc.set j v).take (j + 1) = ys.take (j + 1) := by
  apply List.ext_getElem?
  intro i
  by_cases hi : i < j + 1
  · rw [List.getElem?_take_of_lt hi, List.getElem?_take_of_lt hi]
    by_cases e : i = j
    · subst e
      rw [List.getElem?_set_self (by omega), hv]
    · rw [List.getElem?_set_ne (by omega)]
      have h1 := congrArg (fun l => l[i]?) ht
      simp only [List.getElem?_take_of_lt (show i < j by omega)] at h1
      exact h1
  · rw [List.getElem?_eq_none (by simp; omega), List.getElem?_eq_none (by simp; omega)]
theorem getD_some {α : Type} {xs : List α} {j : Nat} (h : j < xs.length) (d : α) : xs[j]? = some (xs.getD j d) := by
  rw [List.getD_eq_getElem?_getD, List.getElem?_eq_getElem h]; rfl
/-- A loop that writes g of each element of xs into a row of the same length. -/
theorem copy_loop {α β : Type} (g : β → α) (d : β) (xs : List β) (L : Nat → List α → Int → Option (List α)) (hn : xs.length ≤ 9223372036854775806)
    (hs : ∀ k acc (j : Nat), L (k + 1) acc (j : Int) = if j < xs.length then (if j < acc.length then L k (acc.set j (g (xs.getD j d))) (wrap64 ((j : Int) + 1)) else none) else some acc)
    (m : Nat) : ∀ (j : Nat) (acc : List α), xs.length - j = m → j ≤ xs.length → acc.length = xs.length → acc.take j = (xs.map g).take j → Ev (fun k => L k acc (j : Int)) (xs.map g) := by
  induction m with
  | zero =>
    intro j acc h0 h1 h2 h3
    refine Ev.step (fun k => hs k acc j) ?_
    simp only [if_neg (show ¬ j < xs.length by omega)]
    have e : acc = xs.map g := by
      have h4 : acc.take j = acc := List.take_of_length_le (by omega)
      have h5 : (xs.map g).take j = xs.map g := List.take_of_length_le (by simp; omega)
      rw [← h4, h3, h5]
    rw [e]
    exact ev_some
  | succ m ih =>
    intro j acc h0 h1 h2 h3
    refine Ev.step (fun k => hs k acc j) ?_
    simp only [if_pos (show j < xs.length by omega), if_pos (show j < acc.length by omega)]
    rw [nat_w (by omega)]
    refine ih (j + 1) _ (by omega) (by omega) (by simpa using h2) ?_
    refine set_take (by simpa using h2) h3 (by simp; omega) ?_
    rw [List.getElem?_map, getD_some (show j < xs.length by omega) d]
    rfl
/-- A loop that asks each index, and goes on where the answer is yes. -/
theorem all_loop (n : Nat) (L : Nat → Int → Option Bool) (hn : n ≤ 9223372036854775806) (hs : ∀ k (j : Nat), j < n → L (k + 1) (j : Int) = L k (wrap64 ((j : Int) + 1))) (he : ∀ k, L (k + 1) (n : Int) = some true)
    (m : Nat) : ∀ j : Nat, n - j = m → j ≤ n → Ev (fun k => L k (j : Int)) true := by
  induction m with
  | zero =>
    intro j h0 h1
    obtain rfl : j = n := by omega
    exact Ev.step (fun k => he k) ev_some
  | succ m ih =>
    intro j h0 h1
    refine Ev.step (fun k => hs k j (by omega)) ?_
    rw [nat_w (by omega)]
    exact ih (j + 1) (by omega) (by omega)
/-- The elements one behind the other, each turned by f with a number that goes on by c. -/
def marked {α : Type} (c : Int) (f : Int → α → α) : Int → List α → List α
  | _, [] => []
  | s, x :: xs => f s x :: marked c f (s + c) xs
theorem marked_length {α : Type} (c : Int) (f : Int → α → α) : ∀ (s : Int) (xs : List α), (marked c f s xs).length = xs.length
  | _, [] => rfl
  | s, x :: xs => by simp [marked, marked_length c f (s + c) xs]
theorem marked_at {α : Type} (c : Int) (f : Int → α → α) : ∀ (s : Int) (xs : List α) (j : Nat) (d : α), j < xs.length → (marked c f s xs)[j]? = some (f (s + c * j) (xs.getD j d))
  | _, [], j, d, h => by simp at h
  | s, x :: xs, 0, d, _ => by simp [marked]
  | s, x :: xs, j + 1, d, h => by
    have := marked_at c f (s + c) xs j d (by simpa using h)
    simp only [marked, List.getElem?_cons_succ, List.getD_cons_succ]
    rw [this]
    congr 2
    rw [Int.natCast_succ, Int.mul_add]; omega
/-- A loop that marks a row. -/
theorem mark_loop {α : Type} (c : Nat) (hc : c ≤ 8) (f : Int → α → α) (d : α) (xs : List α) (L : Nat → List α → Int → Int → Option (Int × List α)) (hn : xs.length ≤ 2000000) (s0 : Nat) (hs0 : s0 ≤ 20000000)
    (hs : ∀ k acc (s : Nat) (j : Nat), acc.length = xs.length → s ≤ 40000000 → j < xs.length → L (k + 1) acc (s : Int) (j : Int) = L k (acc.set j (f (s : Int) (acc.getD j d))) ((s + c : Nat) : Int) (wrap64 ((j : Int) + 1)))
    (he : ∀ k acc (s : Int), acc.length = xs.length → L (k + 1) acc s (xs.length : Int) = some (s, acc))
    (m : Nat) : ∀ (j : Nat) (acc : List α), xs.length - j = m → j ≤ xs.length → acc.length = xs.length → acc.take j = (marked c f s0 xs).take j → acc.drop j = xs.drop j → Ev (fun k => L k acc ((s0 + c * j : Nat) : Int) (j : Int)) (((s0 + c * xs.length : Nat) : Int), marked c f s0 xs) := by
  induction m with
  | zero =>
    intro j acc h0 h1 h2 h3 _
    obtain rfl : j = xs.length := by omega
    refine Ev.step (fun k => he k acc _ h2) ?_
    have e : acc = marked c f s0 xs := by
      have h4 : acc.take xs.length = acc := List.take_of_length_le (by omega)
      have h5 : (marked c f s0 xs).take xs.length = marked c f s0 xs := List.take_of_length_le (by rw [marked_length]; omega)
      rw [← h4, h3, h5]
    rw [e]
    exact ev_some
  | succ m ih =>
    intro j acc h0 h1 h2 h3 h4
    have hb : c * j ≤ 8 * 2000000 := Nat.mul_le_mul hc (by omega)
    refine Ev.step (fun k => hs k acc _ j h2 (by omega) (by omega)) ?_
    rw [nat_w (by omega), show s0 + c * j + c = s0 + c * (j + 1) by rw [Nat.mul_add]; omega]
    have hg : acc.getD j d = xs.getD j d := by
      have h5 := congrArg (fun l => l[0]?) h4
      simp only [List.getElem?_drop, Nat.add_zero] at h5
      rw [List.getD_eq_getElem?_getD, List.getD_eq_getElem?_getD, h5]
    refine ih (j + 1) _ (by omega) (by omega) (by simpa using h2) ?_ ?_
    · refine set_take (by rw [marked_length]; exact h2) h3 (by rw [marked_length]; omega) ?_
      rw [marked_at c f s0 xs j d (by omega), hg]
      simp
    · rw [List.drop_set_of_lt (by omega), ← List.drop_drop, h4, List.drop_drop]
/-- A loop that looks whether a row is marked so. -/
theorem held_loop (c : Nat) (hc : c ≤ 8) (n : Nat) (L : Nat → Int → Int → Option Int) (hn : n ≤ 2000000) (s0 : Nat) (hs0 : s0 ≤ 20000000)
    (hs : ∀ k (j : Nat), j < n → L (k + 1) ((s0 + c * j : Nat) : Int) (j : Int) = L k ((s0 + c * j + c : Nat) : Int) (wrap64 ((j : Int) + 1)))
    (he : ∀ k (s : Int), L (k + 1) s (n : Int) = some s)
    (m : Nat) : ∀ j : Nat, n - j = m → j ≤ n → Ev (fun k => L k ((s0 + c * j : Nat) : Int) (j : Int)) (((s0 + c * n : Nat) : Int)) := by
  induction m with
  | zero =>
    intro j h0 h1
    obtain rfl : j = n := by omega
    exact Ev.step (fun k => he k _) ev_some
  | succ m ih =>
    intro j h0 h1
    refine Ev.step (fun k => hs k j (by omega)) ?_
    rw [nat_w (by omega), show s0 + c * j + c = s0 + c * (j + 1) by rw [Nat.mul_add]; omega]
    exact ih (j + 1) (by omega) (by omega)
theorem drop_cons {α : Type} {xs : List α} {j : Nat} {t : α} {rest : List α} (h : xs.drop j = t :: rest) : j < xs.length ∧ (∀ d, xs.getD j d = t) ∧ xs.drop (j + 1) = rest := by
  have hj : j < xs.length := by
    rcases Nat.lt_or_ge j xs.length with h1 | h1
    · exact h1
    · rw [List.drop_of_length_le h1] at h; cases h
  rw [List.drop_eq_getElem_cons hj] at h
  injection h with h1 h2
  exact ⟨hj, fun d => by rw [List.getD_eq_getElem?_getD, List.getElem?_eq_getElem hj, ← h1]; rfl, h2⟩
theorem drop_nil {α : Type} {xs : List α} {j : Nat} (h : xs.drop j = []) : xs.length ≤ j := by simpa using h
theorem rdI_at (xs : List Int) (j : Nat) : rd xs (j : Int) = xs.getD j 0 := by unfold rd; rw [Int.toNat_natCast]
theorem rdB_at (xs : List Bool) (j : Nat) : rdOf false xs (j : Int) = xs.getD j false := by unfold rdOf; rw [Int.toNat_natCast]
theorem rdS_at (xs : List S49) (j : Nat) : rd_T49 xs (j : Int) = xs.getD j z49 := by unfold rd_T49; rw [Int.toNat_natCast]
def toS (t : S57) : S49 := ⟨t.f0, t.f1⟩
theorem toSpanS_ev (xs : List S57) (hn : xs.length ≤ 2000000) : Ev (fun k => laws_toSpanS.f k xs) (xs.map toS) := by
  unfold laws_toSpanS.f
  simp only [if_pos (show 0 ≤ (xs.length : Int) by omega), if_pos (show ((xs.length : Int)).toNat ≤ 17592186044416 by omega)]
  have h := copy_loop toS z57 xs (fun k acc i => laws_toSpanS.l0 k xs acc i) (by omega) (fun k acc j => by
    simp only [laws_toSpanS.l0, laws_toSpan.f, Option.bind_some, rd_T57, Int.toNat_natCast, if_pos (show 0 ≤ (j : Int) by omega), Int.ofNat_lt, toS]) xs.length 0 (List.replicate xs.length z49) (by omega) (by omega) (by simp) (by simp)
  simpa using h
theorem eqSpanS_ev (xs : List S49) (hn : xs.length ≤ 2000000) : Ev (fun k => laws_eqSpanS.f k xs xs) true := by
  unfold laws_eqSpanS.f
  simp only [if_true]
  refine all_loop xs.length (fun k i => laws_eqSpanS.l0 k xs xs i) (by omega) (fun k j hj => ?_) (fun k => ?_) xs.length 0 (by omega) (by omega)
  · simp [laws_eqSpanS.l0, hj, laws_eqSpan.f]
  · simp [laws_eqSpanS.l0]
theorem szSpanS_eq (xs : List S57) (hn : xs.length ≤ maxLen) : laws_szSpanS.f xs 1048576 = some (if 1048576 < (xs.length : Int) then -1 else 1048576 - (xs.length : Int)) := by
  unfold laws_szSpanS.f
  simp only [maxLen] at hn
  rw [w64 (by omega) (by omega)]
  by_cases h : 1048576 < (xs.length : Int)
  · simp only [if_pos h, if_pos (show 1048576 - (xs.length : Int) < 0 by omega)]
  · simp only [if_neg h, if_neg (show ¬ 1048576 - (xs.length : Int) < 0 by omega)]
/-- The trains stay in order behind 'last', on n blocks. -/
def okL (n : Int) : Int → List S49 → Bool
  | _, [] => true
  | last, t :: ts => if t.f0 ≤ last then false else if t.f1 < t.f0 then false else if t.f1 ≥ n then false else okL n t.f1 ts
def okT (n : Int) (ts : List S49) : Bool := decide (1 ≤ n ∧ n ≤ 100) && decide (ts.length ≤ 12) && okL n (-1) ts
theorem impl_ok_loop (n : Int) (xs : List S49) (hn : xs.length ≤ 2000000) : ∀ (rest : List S49) (j : Nat) (last : Int), xs.drop j = rest → Ev (fun k => impl_TrainsOk.l0 k n last xs (xs.length : Int) (j : Int)) (okL n last rest) := by
  intro rest
  induction rest with
  | nil =>
    intro j last h
    have := drop_nil h
    refine Ev.step (fun k => by rw [impl_TrainsOk.l0]) ?_
    simp only [if_neg (show ¬ (j : Int) < (xs.length : Int) by omega)]
    exact ev_some
  | cons t rest ih =>
    intro j last h
    obtain ⟨h1, h2, h3⟩ := drop_cons h
    refine Ev.step (fun k => by rw [impl_TrainsOk.l0]) ?_
    simp only [if_pos (show (j : Int) < (xs.length : Int) by omega), if_pos (show 0 ≤ (j : Int) by omega), rd_T49, Int.toNat_natCast, h2, nat_w (show j ≤ 9223372036854775806 by omega), okL]
    by_cases c1 : t.f0 ≤ last
    · simp only [if_pos c1]; exact ev_some
    · by_cases c2 : t.f1 < t.f0
      · simp only [if_neg c1, if_pos c2]; exact ev_some
      · by_cases c3 : t.f1 ≥ n
        · simp only [if_neg c1, if_neg c2, if_pos c3]; exact ev_some
        · simp only [if_neg c1, if_neg c2, if_neg c3]; exact ih (j + 1) _ h3
theorem spec_ok_loop (n : Int) (xs : List S49) (hn : xs.length ≤ 2000000) : ∀ (rest : List S49) (j : Nat) (last : Int), -1 ≤ last → xs.drop j = rest → Ev (fun k => spec_TrainsOk.l0 k n xs last (j : Int)) (okL n last rest) := by
  intro rest
  induction rest with
  | nil =>
    intro j last hl h
    have := drop_nil h
    refine Ev.step (fun k => by rw [spec_TrainsOk.l0]) ?_
    simp only [if_neg (show ¬ (j : Int) < (xs.length : Int) by omega)]
    exact ev_some
  | cons t rest ih =>
    intro j last hl h
    obtain ⟨h1, h2, h3⟩ := drop_cons h
    refine Ev.step (fun k => by rw [spec_TrainsOk.l0]) ?_
    simp only [if_pos (show (j : Int) < (xs.length : Int) by omega), if_pos (show 0 ≤ (j : Int) by omega), rd_T49, Int.toNat_natCast, h2, nat_w (show j ≤ 9223372036854775806 by omega), okL, spec_in, Option.bind_some, decide_eq_true_eq]
    by_cases c1 : t.f0 ≤ last
    · simp only [if_pos c1]; exact ev_some
    · by_cases c2 : t.f1 < t.f0
      · simp only [if_neg c1, if_pos c2, if_neg (show ¬ (0 ≤ t.f0 ∧ t.f0 ≤ t.f1) by omega)]; exact ev_some
      · by_cases c3 : t.f1 ≥ n
        · simp only [if_neg c1, if_neg c2, if_pos (show 0 ≤ t.f0 ∧ t.f0 ≤ t.f1 by omega), if_pos c3]; exact ev_some
        · simp only [if_neg c1, if_neg c2, if_pos (show 0 ≤ t.f0 ∧ t.f0 ≤ t.f1 by omega), if_neg c3]; exact ih (j + 1) _ (by omega) h3
theorem impl_ok_ev (n : Int) (xs : List S49) (hn : xs.length ≤ 2000000) : Ev (fun k => impl_TrainsOk.f k n xs) (okT n xs) := by
  unfold impl_TrainsOk.f okT
  simp only [impl_in, Option.bind_some]
  by_cases h : 1 ≤ n ∧ n ≤ 100
  · by_cases h2 : xs.length ≤ 12
    · have h3 := impl_ok_loop n xs hn xs 0 (-1) (by simp)
      simp only [h, and_self, decide_true, if_true, h2, Bool.true_and]
      refine Ev.step (fun k => by rw [impl_TrainsOk.j0]) ?_
      simpa [show ¬ (xs.length : Int) > 12 by omega] using h3
    · simp only [h, and_self, decide_true, if_true, h2, decide_false, Bool.and_false, Bool.false_and]
      refine Ev.step (fun k => by rw [impl_TrainsOk.j0]) ?_
      simpa [show (xs.length : Int) > 12 by omega] using ev_some
  · simp only [h, decide_false, Bool.false_eq_true, if_false, Bool.false_and]
    refine Ev.step (fun k => by rw [impl_TrainsOk.j0]) ?_
    simpa using ev_some
theorem spec_ok_ev (n : Int) (xs : List S49) (hn : xs.length ≤ 2000000) : Ev (fun k => spec_TrainsOk.f k n xs) (okT n xs) := by
  unfold spec_TrainsOk.f okT
  simp only [spec_in, Option.bind_some]
  by_cases h : 1 ≤ n ∧ n ≤ 100
  · by_cases h2 : xs.length ≤ 12
    · have h3 := spec_ok_loop n xs hn xs 0 (-1) (by omega) (by simp)
      simp only [h, and_self, decide_true, if_true, h2, Bool.true_and]
      refine Ev.step (fun k => by rw [spec_TrainsOk.j0]) ?_
      simpa [show ¬ (xs.length : Int) > 12 by omega] using h3
    · simp only [h, and_self, decide_true, if_true, h2, decide_false, Bool.and_false, Bool.false_and]
      refine Ev.step (fun k => by rw [spec_TrainsOk.j0]) ?_
      simpa [show (xs.length : Int) > 12 by omega] using ev_some
  · simp only [h, decide_false, Bool.false_eq_true, if_false, Bool.false_and]
    refine Ev.step (fun k => by rw [spec_TrainsOk.j0]) ?_
    simpa using ev_some
/-- Does a train lie on block b? -/
def cov (ts : List S49) (b : Int) : Bool := ts.any (fun t => decide (t.f0 ≤ b ∧ b ≤ t.f1))
def takenL (n : Int) (ts : List S49) : List Bool := (List.range n.toNat).map (fun b : Nat => cov ts (b : Int))
def takenR (n : Int) (ts : List S49) : List Bool := if okT n ts = true then takenL n ts else []
theorem takenL_length (n : Int) (ts : List S49) : (takenL n ts).length = n.toNat := by simp [takenL]
theorem okL_mem (n : Int) : ∀ (ts : List S49) (last : Int), okL n last ts = true → ∀ t ∈ ts, last < t.f0 ∧ t.f0 ≤ t.f1 ∧ t.f1 < n
  | [], _, _, t, ht => by simp at ht
  | x :: ts, last, h, t, ht => by
    simp only [okL] at h
    by_cases c1 : x.f0 ≤ last
    · simp [c1] at h
    · by_cases c2 : x.f1 < x.f0
      · simp [c1, c2] at h
      · by_cases c3 : x.f1 ≥ n
        · simp [c1, c2, c3] at h
        · rw [if_neg c1, if_neg c2, if_neg c3] at h
          rcases List.mem_cons.1 ht with rfl | ht
          · omega
          · have := okL_mem n ts x.f1 h t ht
            omega
theorem okT_spec {n : Int} {ts : List S49} (h : okT n ts = true) : (1 ≤ n ∧ n ≤ 100) ∧ ts.length ≤ 12 ∧ okL n (-1) ts = true := by
  unfold okT at h
  simp only [Bool.and_eq_true, decide_eq_true_eq] at h
  exact ⟨h.1.1, h.1.2, h.2⟩
theorem okT_mem {n : Int} {ts : List S49} (h : okT n ts = true) : ∀ t ∈ ts, 0 ≤ t.f0 ∧ t.f0 ≤ t.f1 ∧ t.f1 < n := fun t ht => by
  have := okL_mem n ts (-1) (okT_spec h).2.2 t ht
  omega
theorem range_set (n : Nat) (f : Nat → Bool) (p : Nat) (hp : p < n) : ((List.range n).map f).set p true = (List.range n).map (fun b => f b || decide (b = p)) := by
  apply List.ext_getElem?
  intro i
  by_cases hi : i < n
  · by_cases e : i = p
    · subst e
      rw [List.getElem?_set_self (by simpa using hi)]
      simp [hi]
    · rw [List.getElem?_set_ne (by omega)]
      simp [hi, e]
  · rw [List.getElem?_eq_none (by simp; omega), List.getElem?_eq_none (by simp; omega)]
theorem getD_mem {ts : List S49} {j : Nat} (h : j < ts.length) : ts.getD j z49 ∈ ts := by
  rw [List.getD_eq_getElem?_getD, List.getElem?_eq_getElem h]; exact List.getElem_mem _
/-- What Shrink answers for a right list of trains and a place in it. -/
def shr1 (ts : List S49) (j : Nat) : List S49 × Bool := if (ts.getD j z49).f0 = (ts.getD j z49).f1 then ([], false) else (ts.set j ⟨(ts.getD j z49).f0 + 1, (ts.getD j z49).f1⟩, true)
def shrinkR (n : Int) (ts : List S49) (k : Int) : List S49 × Bool := if okT n ts = true ∧ 0 ≤ k ∧ k < (ts.length : Int) then shr1 ts k.toNat else ([], false)
theorem impl_draw_ev (n : Int) (ts : List S49) (h : okT n ts = true) (j : Nat) (hj : j < ts.length) : impl_drawUp.f ts (j : Int) = some (shr1 ts j) := by
  have hm := okT_mem h _ (getD_mem hj)
  have hs := okT_spec h
  unfold impl_drawUp.f shr1
  simp only [if_pos (show 0 ≤ (j : Int) by omega), if_pos (show (j : Int) < (ts.length : Int) by omega), rdS_at, Int.toNat_natCast, Option.bind_some, List.nil_append, List.length_nil, if_pos (show 0 + ts.length < 8796093022208 by omega)]
  split
  · rfl
  · rw [w64 (by omega) (by omega)]
theorem impl_shrink_ev (n : Int) (ts : List S49) (k0 : Int) (hl : ts.length ≤ 2000000) : Ev (fun k => impl_Shrink.f k n ts k0) (shrinkR n ts k0) := by
  unfold impl_Shrink.f shrinkR
  refine Ev.bind (impl_ok_ev n ts hl) ?_
  by_cases h : okT n ts = true
  · simp only [h, if_true, true_and, impl_in, Option.bind_some, decide_eq_true_eq]
    rw [w64 (x := (ts.length : Int) - 1) (by omega) (by omega)]
    by_cases hk : 0 ≤ k0 ∧ k0 < (ts.length : Int)
    · obtain ⟨j, rfl⟩ : ∃ j : Nat, k0 = j := ⟨k0.toNat, by omega⟩
      simp only [if_pos (show 0 ≤ (j : Int) ∧ (j : Int) ≤ (ts.length : Int) - 1 by omega)]
      simp only [hk, and_self, if_true, Int.toNat_natCast]
      rw [impl_draw_ev n ts h j (by omega)]
      exact ev_some
    · simp only [if_neg hk, if_neg (show ¬ (0 ≤ k0 ∧ k0 ≤ (ts.length : Int) - 1) by omega)]
      exact ev_some
  · simp only [if_neg h, if_neg (show ¬ (okT n ts = true ∧ 0 ≤ k0 ∧ k0 < (ts.length : Int)) from fun x => h x.1)]
    exact ev_some
/-- The trains with another one at place k, or without it. -/
def putL (k : Int) (t : S49) (gone : Bool) : Nat → List S49 → List S49
  | _, [] => []
  | i, x :: xs => (if (i : Int) = k then (if gone = true then [] else [t]) else [x]) ++ putL k t gone (i + 1) xs
theorem putL_past (k : Int) (t : S49) (gone : Bool) : ∀ (i : Nat) (xs : List S49), k < (i : Int) → putL k t gone i xs = xs
  | _, [], _ => rfl
  | i, x :: xs, h => by
    simp only [putL, if_neg (show ¬ (i : Int) = k by omega)]
    rw [putL_past k t gone (i + 1) xs (by omega)]; rfl
theorem putL_gone (t : S49) : ∀ (xs : List S49) (i j : Nat), putL ((i + j : Nat) : Int) t true i xs = xs.take j ++ xs.drop (j + 1)
  | [], i, j => by simp [putL]
  | x :: xs, i, 0 => by
    simp only [putL, Nat.add_zero, if_true, List.take_zero, List.nil_append]
    rw [putL_past _ t true (i + 1) xs (by omega)]; simp
  | x :: xs, i, j + 1 => by
    simp only [putL, if_neg (show ¬ (i : Int) = ((i + (j + 1) : Nat) : Int) by omega)]
    have := putL_gone t xs (i + 1) j
    rw [show i + 1 + j = i + (j + 1) by omega] at this
    rw [this]; simp
theorem putL_set (t : S49) : ∀ (xs : List S49) (i j : Nat), putL ((i + j : Nat) : Int) t false i xs = xs.set j t
  | [], i, j => by simp [putL]
  | x :: xs, i, 0 => by
    simp only [putL, Nat.add_zero, if_true, Bool.false_eq_true, if_false]
    rw [putL_past _ t false (i + 1) xs (by omega)]; simp
  | x :: xs, i, j + 1 => by
    simp only [putL, if_neg (show ¬ (i : Int) = ((i + (j + 1) : Nat) : Int) by omega)]
    have := putL_set t xs (i + 1) j
    rw [show i + 1 + j = i + (j + 1) by omega] at this
    rw [this]; simp
theorem spec_put_loop (xs : List S49) (hn : xs.length ≤ 2000000) (k0 : Int) (t : S49) (gone : Bool) : ∀ (rest : List S49) (j : Nat) (acc : List S49), xs.drop j = rest → j ≤ xs.length → acc.length ≤ j → Ev (fun k => spec_l05Put.l0 k xs k0 gone acc (j : Int) t.f0 t.f1) (acc ++ putL k0 t gone j rest) := by
  intro rest
  induction rest with
  | nil =>
    intro j acc h hj hl
    have := drop_nil h
    refine Ev.step (fun k => by rw [spec_l05Put.l0]) ?_
    simp only [if_neg (show ¬ (j : Int) < (xs.length : Int) by omega), putL, List.append_nil]
    exact ev_some
  | cons x rest ih =>
    intro j acc h hj hl
    obtain ⟨h1, h2, h3⟩ := drop_cons h
    refine Ev.step (fun k => by rw [spec_l05Put.l0]) ?_
    simp only [if_pos (show (j : Int) < (xs.length : Int) by omega), if_pos (show 0 ≤ (j : Int) by omega), rdS_at, h2, nat_w (show j ≤ 9223372036854775806 by omega), if_pos (show acc.length < 8796093022208 by omega), putL]
    by_cases c : (j : Int) = k0
    · simp only [if_pos c]
      by_cases g : gone = true
      · simp only [if_pos g, List.nil_append]
        exact ih (j + 1) acc h3 (by omega) (by omega)
      · simp only [if_neg g]
        have := ih (j + 1) (acc ++ [t]) h3 (by omega) (by simp; omega)
        rw [List.append_assoc] at this
        exact this
    · simp only [if_neg c]
      have := ih (j + 1) (acc ++ [x]) h3 (by omega) (by simp; omega)
      rw [List.append_assoc] at this
      exact this
theorem spec_put_ev (xs : List S49) (hn : xs.length ≤ 2000000) (k0 : Int) (t : S49) (gone : Bool) : Ev (fun k => spec_l05Put.f k xs k0 t.f0 t.f1 gone) (putL k0 t gone 0 xs) := by
  unfold spec_l05Put.f
  have := spec_put_loop xs hn k0 t gone xs 0 [] (by simp) (by omega) (by simp)
  simpa using this
theorem spec_shrink_ev (n : Int) (ts : List S49) (k0 : Int) (hl : ts.length ≤ 2000000) : Ev (fun k => spec_Shrink.f k n ts k0) (shrinkR n ts k0) := by
  unfold spec_Shrink.f shrinkR
  refine Ev.bind (spec_ok_ev n ts hl) ?_
  by_cases h : okT n ts = true
  · simp only [h, if_true, true_and, spec_in, Option.bind_some, decide_eq_true_eq]
    rw [w64 (x := (ts.length : Int) - 1) (by omega) (by omega)]
    by_cases hk : 0 ≤ k0 ∧ k0 < (ts.length : Int)
    · obtain ⟨j, rfl⟩ : ∃ j : Nat, k0 = j := ⟨k0.toNat, by omega⟩
      have hj : j < ts.length := by omega
      have hm := okT_mem h _ (getD_mem hj)
      have hs := okT_spec h
      simp only [if_pos (show 0 ≤ (j : Int) ∧ (j : Int) ≤ (ts.length : Int) - 1 by omega)]
      simp only [hk, and_self, if_true, rdS_at, Int.toNat_natCast, shr1]
      by_cases c : (ts.getD j z49).f0 = (ts.getD j z49).f1
      · simp only [if_pos c]; exact ev_some
      · simp only [if_neg c]
        rw [w64 (by omega) (by omega)]
        have hp := spec_put_ev ts hl (j : Int) ⟨(ts.getD j z49).f0 + 1, (ts.getD j z49).f1⟩ false
        have he := putL_set ⟨(ts.getD j z49).f0 + 1, (ts.getD j z49).f1⟩ ts 0 j
        rw [Nat.zero_add] at he
        rw [he] at hp
        exact Ev.bind hp ev_some
    · simp only [if_neg hk, if_neg (show ¬ (0 ≤ k0 ∧ k0 ≤ (ts.length : Int) - 1) by omega)]
      exact ev_some
  · simp only [if_neg h, if_neg (show ¬ (okT n ts = true ∧ 0 ≤ k0 ∧ k0 < (ts.length : Int)) from fun x => h x.1)]
    exact ev_some
def markS (s : Int) (_ : S49) : S49 := ⟨s, s + 1⟩
theorem set_set' {α : Type} (xs : List α) (j : Nat) (a b : α) : (xs.set j a).set j b = xs.set j b := by simp
theorem markSpanS_ev (xs : List S49) (hn : xs.length ≤ 2000000) (s : Nat) (hs : s ≤ 20000000) : Ev (fun k => laws_markSpanS.f k xs (s : Int)) (((s + 2 * xs.length : Nat) : Int), marked 2 markS s xs) := by
  unfold laws_markSpanS.f
  have h := mark_loop 2 (by omega) markS z49 xs (fun k acc s i => laws_markSpanS.l0 k acc s i) hn s hs
    (fun k acc s j h1 h2 h3 => by
      have hg : (acc.set j (⟨(s : Int), (rd_T49 acc (j : Int)).f1⟩ : S49)).getD j z49 = ⟨(s : Int), (rd_T49 acc (j : Int)).f1⟩ := by
        rw [List.getD_eq_getElem?_getD, List.getElem?_set_self (by omega)]; rfl
      simp only [laws_markSpanS.l0, h1, if_pos (show (j : Int) < (xs.length : Int) by omega), if_pos (show 0 ≤ (j : Int) by omega), Int.toNat_natCast, Option.bind_some, markS]
      rw [w64 (x := (s : Int) + 1) (by omega) (by omega), w64 (x := (s : Int) + 1 + 1) (by omega) (by omega)]
      rw [show rd_T49 (acc.set j (⟨(s : Int), (rd_T49 acc (j : Int)).f1⟩ : S49)) (j : Int) = ⟨(s : Int), (rd_T49 acc (j : Int)).f1⟩ from by unfold rd_T49; rw [Int.toNat_natCast]; exact hg]
      rw [set_set']
      rw [show (s : Int) + 1 + 1 = ((s + 2 : Nat) : Int) by omega])
    (fun k acc s h1 => by simp [laws_markSpanS.l0, h1]) xs.length 0 xs (by omega) (by omega) rfl (by simp) rfl
  simpa using h
theorem heldSpanS_ev (xs : List S49) (hn : xs.length ≤ 2000000) (s : Nat) (hs : s ≤ 20000000) : Ev (fun k => laws_heldSpanS.f k (marked 2 markS s xs) (s : Int)) ((s + 2 * xs.length : Nat) : Int) := by
  unfold laws_heldSpanS.f
  have hl := marked_length 2 markS s xs
  have h := held_loop 2 (by omega) xs.length (fun k s' i => laws_heldSpanS.l0 k (marked 2 markS s xs) s' i) hn s hs
    (fun k j hj => by
      have hm := marked_at 2 markS s xs j z49 hj
      simp only [laws_heldSpanS.l0, hl, if_pos (show (j : Int) < (xs.length : Int) by omega), if_pos (show 0 ≤ (j : Int) by omega), rd_T49, Int.toNat_natCast, List.getD_eq_getElem?_getD, hm, Option.getD_some, markS]
      rw [w64 (x := ((s + 2 * j : Nat) : Int) + 1) (by omega) (by omega), w64 (x := ((s + 2 * j : Nat) : Int) + 1 + 1) (by omega) (by omega), if_pos (by omega), if_pos (by omega)]
      rw [show ((s + 2 * j : Nat) : Int) + 1 + 1 = ((s + 2 * j + 2 : Nat) : Int) by omega])
    (fun k s' => by simp [laws_heldSpanS.l0, hl]) xs.length 0 (by omega) (by omega)
  simpa using h
theorem shrinkR_length (n : Int) (ts : List S49) (k : Int) : (shrinkR n ts k).1.length ≤ ts.length := by
  unfold shrinkR
  split
  · unfold shr1; split <;> simp
  · simp
theorem FnExactShrink : laws_FnExactShrink.Pure := by
  intro n xs k0 hw hx hk
  refine Ev.rounds ?_
  unfold laws_FnExactShrink.f
  simp only [szSpanS_eq xs hx.1, Option.bind_some]
  by_cases h : 1048576 < (xs.length : Int)
  · simp only [if_pos h]; exact ev_some
  · simp only [if_neg h, if_neg (show ¬ 1048576 - (xs.length : Int) < 0 by omega)]
    have hn : xs.length ≤ 2000000 := by omega
    have hm : (xs.map toS).length ≤ 2000000 := by simpa using hn
    have hr : (shrinkR n (xs.map toS) k0).1.length ≤ 2000000 := Nat.le_trans (shrinkR_length n (xs.map toS) k0) hm
    refine Ev.bind (toSpanS_ev xs hn) (Ev.bind (spec_shrink_ev n _ k0 hm) (Ev.bind (toSpanS_ev xs hn) (Ev.bind (impl_shrink_ev n _ k0 hm) (Ev.bind (eqSpanS_ev _ hr) ?_))))
    simp only [if_true, bne_self_eq_false]
    refine Ev.step (fun k => by rw [laws_FnExactShrink.j0]) ?_
    simp only [Bool.false_eq_true, if_false]
    refine Ev.bind (toSpanS_ev xs hn) (Ev.bind (eqSpanS_ev _ hm) ?_)
    simp only [if_true]
    refine Ev.bind (markSpanS_ev _ hm 1 (by omega)) ?_
    simp only [if_neg (show ¬ ((1 + 2 * (xs.map toS).length : Nat) : Int) < 0 by omega)]
    refine Ev.bind (eqSpanS_ev _ hr) ?_
    simp only [if_true, bne_self_eq_false]
    refine Ev.step (fun k => by rw [laws_FnExactShrink.j1]) ?_
    simp only [Bool.false_eq_true, if_false]
    refine Ev.bind (markSpanS_ev _ hr 1 (by omega)) (Ev.bind (heldSpanS_ev _ hr 1 (by omega)) ?_)
    simp only [if_neg (show ¬ ((1 + 2 * (shrinkR n (xs.map toS) k0).1.length : Nat) : Int) < 0 by omega), if_true]
    refine Ev.bind (toSpanS_ev xs hn) (Ev.bind (impl_shrink_ev n _ k0 hm) (Ev.bind (eqSpanS_ev _ hr) ?_))
    simp only [if_true, bne_self_eq_false]
    refine Ev.step (fun k => by rw [laws_FnExactShrink.j2]) ?_
    simp only [Bool.false_eq_true, if_false]
    refine Ev.bind (heldSpanS_ev _ hr 1 (by omega)) ?_
    simp only [if_neg (show ¬ ((1 + 2 * (shrinkR n (xs.map toS) k0).1.length : Nat) : Int) < 0 by omega), if_true]
    exact ev_some

end Go.Proofs.Ytcceefojngmpjaa.Pure
