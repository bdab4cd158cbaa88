/- Whatever is driven, the trains stay in order with no block in common, none comes anew, their number falls only where one leaves at the end, and a drive is that of its first part and then of the rest. -/
import Derived.Test.YtmbonjljbienkaaRowFnDrive
namespace Go.Proofs.Ytmbonjljbienkaa.Pure
open Go.RowKit Go.Proofs.Ytmbonjljbienkaa.PFnDrive Go.Proofs.YtmbonjljbienkaaW.PrintWords Go.Proofs.YtmbonjljbienkaaW.PrintLast Go.Proofs.YtmbonjljbienkaaW.PrintMore
set_option linter.unusedVariables false
set_option linter.unusedSimpArgs false
theorem w64 {x : Int} (h0 : -9223372036854775808 ≤ x) (h1 : x ≤ 9223372036854775807) : wrap64 x = x := by unfold wrap64; omega
theorem ev_k {α : Type} {g : Nat → Option α} {r : α} (h : ∀ k, g k = some r) : Ev g r := ⟨0, fun k _ => h k⟩
theorem ev_some {α : Type} {r : α} : Ev (fun _ => some r) r := Ev.now r
theorem wf_i64 {x : Int} (h : (Lit.int .i64 x).wf = true) : -9223372036854775808 ≤ x ∧ x ≤ 9223372036854775807 := by
  simp only [Lit.wf, Bool.and_eq_true, decide_eq_true_eq] at h
  have h1 : IntKind.min .i64 = -9223372036854775808 := by decide
  have h2 : IntKind.max .i64 = 9223372036854775807 := by decide
  omega
theorem wf_u8 {x : Int} (h : (Lit.int .u8 x).wf = true) : 0 ≤ x ∧ x ≤ 255 := by
  simp only [Lit.wf, Bool.and_eq_true, decide_eq_true_eq] at h
  have h1 : IntKind.min .u8 = 0 := by decide
  have h2 : IntKind.max .u8 = 255 := by decide
  omega
theorem spec_in (x lo hi : Int) : spec_l01In.f x lo hi = some (decide (lo ≤ x ∧ x ≤ hi)) := by
  unfold spec_l01In.f
  by_cases h : lo ≤ x <;> simp [h]
theorem impl_in (x lo hi : Int) : impl_between.f x lo hi = some (decide (lo ≤ x ∧ x ≤ hi)) := by
  unfold impl_between.f
  by_cases h : x ≥ lo
  · have h' : lo ≤ x := h
    simp [h, h']
  · have h' : ¬ lo ≤ x := h
    simp [h, h']
/-! Loops over lists, whatever the elements. -/
theorem nat_w {j : Nat} (h : j ≤ 9223372036854775806) : wrap64 ((j : Int) + 1) = ((j + 1 : Nat) : Int) := by rw [w64 (by omega) (by omega)]; omega
theorem set_take {α : Type} {acc ys : List α} {j : Nat} (hl : acc.length = ys.length) (ht : acc.take j = ys.take j) (hj : j < ys.length) {v : α} (hv : ys[j]? = some v) : (acc.set j v).take (j + 1) = ys.take (j + 1) := by
  apply List.ext_getElem?
  intro i
  by_cases hi : i < j + 1
  · rw [List.getElem?_take_of_lt hi, List.getElem?_take_of_lt hi]
    by_cases e : i = j
    · subst e
      rw [List.getElem?_set_self (by omega), hv]
    · rw [List.getElem?_set_ne (by omega)]
      have h1 := congrArg (fun l => l[i]?) ht
      simp only [List.getElem?_take_of_lt (show i < j by omega)] at h1
      exact h1
  · rw [List.getElem?_eq_none (by simp; omega), List.getElem?_eq_none (by simp; omega)]
theorem getD_some {α : Type} {xs : List α} {j : Nat} (h : j < xs.length) (d : α) : xs[j]? = some (xs.getD j d) := by
  rw [List.getD_eq_getElem?_getD, List.getElem?_eq_getElem h]; rfl
/-- A loop that writes g of each element of xs into a row of the same length. -/
theorem copy_loop {α β : Type} (g : β → α) (d : β) (xs : List β) (L : Nat → List α → Int → Option (List α)) (hn : xs.length ≤ 9223372036854775806)
    (hs : ∀ k acc (j : Nat), L (k + 1) acc (j : Int) = if j < xs.length then (if j < acc.length then L k (acc.set j (g (xs.getD j d))) (wrap64 ((j : Int) + 1)) else none) else some acc)
    (m : Nat) : ∀ (j : Nat) (acc : List α), xs.length - j = m → j ≤ xs.length → acc.length = xs.length → acc.take j = (xs.map g).take j → Ev (fun k => L k acc (j : Int)) (xs.map g) := by
  induction m with
  | zero =>
    intro j acc h0 h1 h2 h3
    refine Ev.step (fun k => hs k acc j) ?_
    simp only [if_neg (show ¬ j < xs.length by omega)]
    have e : acc = xs.map g := by
      have h4 : acc.take j = acc := List.take_of_length_le (by omega)
      have h5 : (xs.map g).take j = xs.map g := List.take_of_length_le (by simp; omega)
      rw [← h4, h3, h5]
    rw [e]
    exact ev_some
  | succ m ih =>
    intro j acc h0 h1 h2 h3
    refine Ev.step (fun k => hs k acc j) ?_
    simp only [if_pos (show j < xs.length by omega), if_pos (show j < acc.length by omega)]
    rw [nat_w (by omega)]
    refine ih (j + 1) _ (by omega) (by omega) (by simpa using h2) ?_
    refine set_take (by simpa using h2) h3 (by simp; omega) ?_
    rw [List.getElem?_map, getD_some (show j < xs.length by omega) d]
    rfl
/-- A loop that asks each index, and goes on where the answer is yes. -/
theorem all_loop (n : Nat) (L : Nat → Int → Option Bool) (hn : n ≤ 9223372036854775806) (hs : ∀ k (j : Nat), j < n → L (k + 1) (j : Int) = L k (wrap64 ((j : Int) + 1))) (he : ∀ k, L (k + 1) (n : Int) = some true)
    (m : Nat) : ∀ j : Nat, n - j = m → j ≤ n → Ev (fun k => L k (j : Int)) true := by
  induction m with
  | zero =>
    intro j h0 h1
    obtain rfl : j = n := by omega
    exact Ev.step (fun k => he k) ev_some
  | succ m ih =>
    intro j h0 h1
    refine Ev.step (fun k => hs k j (by omega)) ?_
    rw [nat_w (by omega)]
    exact ih (j + 1) (by omega) (by omega)
/-- The elements one behind the other, each turned by f with a number that goes on by c. -/
def marked {α : Type} (c : Int) (f : Int → α → α) : Int → List α → List α
  | _, [] => []
  | s, x :: xs => f s x :: marked c f (s + c) xs
theorem marked_length {α : Type} (c : Int) (f : Int → α → α) : ∀ (s : Int) (xs : List α), (marked c f s xs).length = xs.length
  | _, [] => rfl
  | s, x :: xs => by simp [marked, marked_length c f (s + c) xs]
theorem marked_at {α : Type} (c : Int) (f : Int → α → α) : ∀ (s : Int) (xs : List α) (j : Nat) (d : α), j < xs.length → (marked c f s xs)[j]? = some (f (s + c * j) (xs.getD j d))
  | _, [], j, d, h => by simp at h
  | s, x :: xs, 0, d, _ => by simp [marked]
  | s, x :: xs, j + 1, d, h => by
    have := marked_at c f (s + c) xs j d (by simpa using h)
    simp only [marked, List.getElem?_cons_succ, List.getD_cons_succ]
    rw [this]
    congr 2
    rw [Int.natCast_succ, Int.mul_add]; omega
/-- A loop that marks a row. -/
theorem mark_loop {α : Type} (c : Nat) (hc : c ≤ 8) (f : Int → α → α) (d : α) (xs : List α) (L : Nat → List α → Int → Int → Option (Int × List α)) (hn : xs.length ≤ 2000000) (s0 : Nat) (hs0 : s0 ≤ 20000000)
    (hs : ∀ k acc (s : Nat) (j : Nat), acc.length = xs.length → s ≤ 40000000 → j < xs.length → L (k + 1) acc (s : Int) (j : Int) = L k (acc.set j (f (s : Int) (acc.getD j d))) ((s + c : Nat) : Int) (wrap64 ((j : Int) + 1)))
    (he : ∀ k acc (s : Int), acc.length = xs.length → L (k + 1) acc s (xs.length : Int) = some (s, acc))
    (m : Nat) : ∀ (j : Nat) (acc : List α), xs.length - j = m → j ≤ xs.length → acc.length = xs.length → acc.take j = (marked c f s0 xs).take j → acc.drop j = xs.drop j → Ev (fun k => L k acc ((s0 + c * j : Nat) : Int) (j : Int)) (((s0 + c * xs.length : Nat) : Int), marked c f s0 xs) := by
  induction m with
  | zero =>
    intro j acc h0 h1 h2 h3 _
    obtain rfl : j = xs.length := by omega
    refine Ev.step (fun k => he k acc _ h2) ?_
    have e : acc = marked c f s0 xs := by
      have h4 : acc.take xs.length = acc := List.take_of_length_le (by omega)
      have h5 : (marked c f s0 xs).take xs.length = marked c f s0 xs := List.take_of_length_le (by rw [marked_length]; omega)
      rw [← h4, h3, h5]
    rw [e]
    exact ev_some
  | succ m ih =>
    intro j acc h0 h1 h2 h3 h4
    have hb : c * j ≤ 8 * 2000000 := Nat.mul_le_mul hc (by omega)
    refine Ev.step (fun k => hs k acc _ j h2 (by omega) (by omega)) ?_
    rw [nat_w (by omega), show s0 + c * j + c = s0 + c * (j + 1) by rw [Nat.mul_add]; omega]
    have hg : acc.getD j d = xs.getD j d := by
      have h5 := congrArg (fun l => l[0]?) h4
      simp only [List.getElem?_drop, Nat.add_zero] at h5
      rw [List.getD_eq_getElem?_getD, List.getD_eq_getElem?_getD, h5]
    refine ih (j + 1) _ (by omega) (by omega) (by simpa using h2) ?_ ?_
    · refine set_take (by rw [marked_length]; exact h2) h3 (by rw [marked_length]; omega) ?_
      rw [marked_at c f s0 xs j d (by omega), hg]
      simp
    · rw [List.drop_set_of_lt (by omega), ← List.drop_drop, h4, List.drop_drop]
/-- A loop that looks whether a row is marked so. -/
theorem held_loop (c : Nat) (hc : c ≤ 8) (n : Nat) (L : Nat → Int → Int → Option Int) (hn : n ≤ 2000000) (s0 : Nat) (hs0 : s0 ≤ 20000000)
    (hs : ∀ k (j : Nat), j < n → L (k + 1) ((s0 + c * j : Nat) : Int) (j : Int) = L k ((s0 + c * j + c : Nat) : Int) (wrap64 ((j : Int) + 1)))
    (he : ∀ k (s : Int), L (k + 1) s (n : Int) = some s)
    (m : Nat) : ∀ j : Nat, n - j = m → j ≤ n → Ev (fun k => L k ((s0 + c * j : Nat) : Int) (j : Int)) (((s0 + c * n : Nat) : Int)) := by
  induction m with
  | zero =>
    intro j h0 h1
    obtain rfl : j = n := by omega
    exact Ev.step (fun k => he k _) ev_some
  | succ m ih =>
    intro j h0 h1
    refine Ev.step (fun k => hs k j (by omega)) ?_
    rw [nat_w (by omega), show s0 + c * j + c = s0 + c * (j + 1) by rw [Nat.mul_add]; omega]
    exact ih (j + 1) (by omega) (by omega)
theorem drop_cons {α : Type} {xs : List α} {j : Nat} {t : α} {rest : List α} (h : xs.drop j = t :: rest) : j < xs.length ∧ (∀ d, xs.getD j d = t) ∧ xs.drop (j + 1) = rest := by
  have hj : j < xs.length := by
    rcases Nat.lt_or_ge j xs.length with h1 | h1
    · exact h1
    · rw [List.drop_of_length_le h1] at h; cases h
  rw [List.drop_eq_getElem_cons hj] at h
  injection h with h1 h2
  exact ⟨hj, fun d => by rw [List.getD_eq_getElem?_getD, List.getElem?_eq_getElem hj, ← h1]; rfl, h2⟩
theorem drop_nil {α : Type} {xs : List α} {j : Nat} (h : xs.drop j = []) : xs.length ≤ j := by simpa using h
theorem rdI_at (xs : List Int) (j : Nat) : rd xs (j : Int) = xs.getD j 0 := by unfold rd; rw [Int.toNat_natCast]
theorem rdB_at (xs : List Bool) (j : Nat) : rdOf false xs (j : Int) = xs.getD j false := by unfold rdOf; rw [Int.toNat_natCast]
theorem rdS_at (xs : List S51) (j : Nat) : rd_T51 xs (j : Int) = xs.getD j z51 := by unfold rd_T51; rw [Int.toNat_natCast]
/-- The trains stay in order behind 'last', on n blocks. -/
def okL (n : Int) : Int → List S51 → Bool
  | _, [] => true
  | last, t :: ts => if t.f0 ≤ last then false else if t.f1 < t.f0 then false else if t.f1 ≥ n then false else okL n t.f1 ts
def okT (n : Int) (ts : List S51) : Bool := decide (1 ≤ n ∧ n ≤ 100) && decide (ts.length ≤ 12) && okL n (-1) ts
theorem impl_ok_loop (n : Int) (xs : List S51) (hn : xs.length ≤ 2000000) : ∀ (rest : List S51) (j : Nat) (last : Int), xs.drop j = rest → Ev (fun k => impl_TrainsOk.l0 k n last xs (xs.length : Int) (j : Int)) (okL n last rest) := by
  intro rest
  induction rest with
  | nil =>
    intro j last h
    have := drop_nil h
    refine Ev.step (fun k => by rw [impl_TrainsOk.l0]) ?_
    simp only [if_neg (show ¬ (j : Int) < (xs.length : Int) by omega)]
    exact ev_some
  | cons t rest ih =>
    intro j last h
    obtain ⟨h1, h2, h3⟩ := drop_cons h
    refine Ev.step (fun k => by rw [impl_TrainsOk.l0]) ?_
    simp only [if_pos (show (j : Int) < (xs.length : Int) by omega), if_pos (show 0 ≤ (j : Int) by omega), rd_T51, Int.toNat_natCast, h2, nat_w (show j ≤ 9223372036854775806 by omega), okL]
    by_cases c1 : t.f0 ≤ last
    · simp only [if_pos c1]; exact ev_some
    · by_cases c2 : t.f1 < t.f0
      · simp only [if_neg c1, if_pos c2]; exact ev_some
      · by_cases c3 : t.f1 ≥ n
        · simp only [if_neg c1, if_neg c2, if_pos c3]; exact ev_some
        · simp only [if_neg c1, if_neg c2, if_neg c3]; exact ih (j + 1) _ h3
theorem spec_ok_loop (n : Int) (xs : List S51) (hn : xs.length ≤ 2000000) : ∀ (rest : List S51) (j : Nat) (last : Int), -1 ≤ last → xs.drop j = rest → Ev (fun k => spec_TrainsOk.l0 k n xs last (j : Int)) (okL n last rest) := by
  intro rest
  induction rest with
  | nil =>
    intro j last hl h
    have := drop_nil h
    refine Ev.step (fun k => by rw [spec_TrainsOk.l0]) ?_
    simp only [if_neg (show ¬ (j : Int) < (xs.length : Int) by omega)]
    exact ev_some
  | cons t rest ih =>
    intro j last hl h
    obtain ⟨h1, h2, h3⟩ := drop_cons h
    refine Ev.step (fun k => by rw [spec_TrainsOk.l0]) ?_
    simp only [if_pos (show (j : Int) < (xs.length : Int) by omega), if_pos (show 0 ≤ (j : Int) by omega), rd_T51, Int.toNat_natCast, h2, nat_w (show j ≤ 9223372036854775806 by omega), okL, spec_in, Option.bind_some, decide_eq_true_eq]
    by_cases c1 : t.f0 ≤ last
    · simp only [if_pos c1]; exact ev_some
    · by_cases c2 : t.f1 < t.f0
      · simp only [if_neg c1, if_pos c2, if_neg (show ¬ (0 ≤ t.f0 ∧ t.f0 ≤ t.f1) by omega)]; exact ev_some
      · by_cases c3 : t.f1 ≥ n
        · simp only [if_neg c1, if_neg c2, if_pos (show 0 ≤ t.f0 ∧ t.f0 ≤ t.f1 by omega), if_pos c3]; exact ev_some
        · simp only [if_neg c1, if_neg c2, if_pos (show 0 ≤ t.f0 ∧ t.f0 ≤ t.f1 by omega), if_neg c3]; exact ih (j + 1) _ (by omega) h3
theorem impl_ok_ev (n : Int) (xs : List S51) (hn : xs.length ≤ 2000000) : Ev (fun k => impl_TrainsOk.f k n xs) (okT n xs) := by
  unfold impl_TrainsOk.f okT
  simp only [impl_in, Option.bind_some]
  by_cases h : 1 ≤ n ∧ n ≤ 100
  · by_cases h2 : xs.length ≤ 12
    · have h3 := impl_ok_loop n xs hn xs 0 (-1) (by simp)
      simp only [h, and_self, decide_true, if_true, h2, Bool.true_and]
      refine Ev.step (fun k => by rw [impl_TrainsOk.j0]) ?_
      simpa [show ¬ (xs.length : Int) > 12 by omega] using h3
    · simp only [h, and_self, decide_true, if_true, h2, decide_false, Bool.and_false, Bool.false_and]
      refine Ev.step (fun k => by rw [impl_TrainsOk.j0]) ?_
      simpa [show (xs.length : Int) > 12 by omega] using ev_some
  · simp only [h, decide_false, Bool.false_eq_true, if_false, Bool.false_and]
    refine Ev.step (fun k => by rw [impl_TrainsOk.j0]) ?_
    simpa using ev_some
theorem spec_ok_ev (n : Int) (xs : List S51) (hn : xs.length ≤ 2000000) : Ev (fun k => spec_TrainsOk.f k n xs) (okT n xs) := by
  unfold spec_TrainsOk.f okT
  simp only [spec_in, Option.bind_some]
  by_cases h : 1 ≤ n ∧ n ≤ 100
  · by_cases h2 : xs.length ≤ 12
    · have h3 := spec_ok_loop n xs hn xs 0 (-1) (by omega) (by simp)
      simp only [h, and_self, decide_true, if_true, h2, Bool.true_and]
      refine Ev.step (fun k => by rw [spec_TrainsOk.j0]) ?_
      simpa [show ¬ (xs.length : Int) > 12 by omega] using h3
    · simp only [h, and_self, decide_true, if_true, h2, decide_false, Bool.and_false, Bool.false_and]
      refine Ev.step (fun k => by rw [spec_TrainsOk.j0]) ?_
      simpa [show (xs.length : Int) > 12 by omega] using ev_some
  · simp only [h, decide_false, Bool.false_eq_true, if_false, Bool.false_and]
    refine Ev.step (fun k => by rw [spec_TrainsOk.j0]) ?_
    simpa using ev_some
/-- Does a train lie on block b? -/
def cov (ts : List S51) (b : Int) : Bool := ts.any (fun t => decide (t.f0 ≤ b ∧ b ≤ t.f1))
def takenL (n : Int) (ts : List S51) : List Bool := (List.range n.toNat).map (fun b : Nat => cov ts (b : Int))
def takenR (n : Int) (ts : List S51) : List Bool := if okT n ts = true then takenL n ts else []
theorem takenL_length (n : Int) (ts : List S51) : (takenL n ts).length = n.toNat := by simp [takenL]
theorem okL_mem (n : Int) : ∀ (ts : List S51) (last : Int), okL n last ts = true → ∀ t ∈ ts, last < t.f0 ∧ t.f0 ≤ t.f1 ∧ t.f1 < n
  | [], _, _, t, ht => by simp at ht
  | x :: ts, last, h, t, ht => by
    simp only [okL] at h
    by_cases c1 : x.f0 ≤ last
    · simp [c1] at h
    · by_cases c2 : x.f1 < x.f0
      · simp [c1, c2] at h
      · by_cases c3 : x.f1 ≥ n
        · simp [c1, c2, c3] at h
        · rw [if_neg c1, if_neg c2, if_neg c3] at h
          rcases List.mem_cons.1 ht with rfl | ht
          · omega
          · have := okL_mem n ts x.f1 h t ht
            omega
theorem okT_spec {n : Int} {ts : List S51} (h : okT n ts = true) : (1 ≤ n ∧ n ≤ 100) ∧ ts.length ≤ 12 ∧ okL n (-1) ts = true := by
  unfold okT at h
  simp only [Bool.and_eq_true, decide_eq_true_eq] at h
  exact ⟨h.1.1, h.1.2, h.2⟩
theorem okT_mem {n : Int} {ts : List S51} (h : okT n ts = true) : ∀ t ∈ ts, 0 ≤ t.f0 ∧ t.f0 ≤ t.f1 ∧ t.f1 < n := fun t ht => by
  have := okL_mem n ts (-1) (okT_spec h).2.2 t ht
  omega
theorem range_set (n : Nat) (f : Nat → Bool) (p : Nat) (hp : p < n) : ((List.range n).map f).set p true = (List.range n).map (fun b => f b || decide (b = p)) := by
  apply List.ext_getElem?
  intro i
  by_cases hi : i < n
  · by_cases e : i = p
    · subst e
      rw [List.getElem?_set_self (by simpa using hi)]
      simp [hi]
    · rw [List.getElem?_set_ne (by omega)]
      simp [hi, e]
  · rw [List.getElem?_eq_none (by simp; omega), List.getElem?_eq_none (by simp; omega)]
theorem getD_mem {ts : List S51} {j : Nat} (h : j < ts.length) : ts.getD j z51 ∈ ts := by
  rw [List.getD_eq_getElem?_getD, List.getElem?_eq_getElem h]; exact List.getElem_mem _
theorem and255 (n : Int) : Go.bits .and .i64 n 255 = n % 256 := by
  have h255 : (BitVec.ofInt 64 255).toNat = 2 ^ 8 - 1 := by decide
  have key : (BitVec.ofInt 64 n &&& BitVec.ofInt 64 255).toNat = (n % ((2 ^ 64 : Nat) : Int)).toNat % 2 ^ 8 := by
    rw [BitVec.toNat_and, BitVec.toNat_ofInt, h255, Nat.and_two_pow_sub_one_eq_mod]
  show Go.IntKind.i64.wrap ((BitVec.ofInt 64 n &&& BitVec.ofInt 64 255).toNat : Nat) = n % 256
  rw [key, Go.IntKind.wrap_i64]
  omega
theorem new_loop (l : List Int) (hl : l.length ≤ 2000000) (m : Nat) : ∀ (j : Nat) (h : Int), l.length - j = m → j ≤ l.length → ∃ h', Ev (fun k => spec_l01New.l0 k l h (j : Int)) (l, 0, h') := by
  induction m with
  | zero =>
    intro j h h0 h1
    refine ⟨h, Ev.step (fun k => by rw [spec_l01New.l0]) ?_⟩
    simp only [if_neg (show ¬ (j : Int) < (l.length : Int) by omega)]
    exact ev_some
  | succ m ih =>
    intro j h h0 h1
    by_cases c : (j : Int) < 4000
    · obtain ⟨h', hh⟩ := ih (j + 1) (Go.bits .and .i64 (wrap64 ((wrap64 ((wrap64 (h * 137)) + (wrap64 (rd l (j : Int))))) + 11)) 1073741823) (by omega) (by omega)
      refine ⟨h', Ev.step (fun k => by rw [spec_l01New.l0]) ?_⟩
      simp only [if_pos (show (j : Int) < (l.length : Int) by omega), if_pos c, if_pos (show 0 ≤ (j : Int) by omega), nat_w (show j ≤ 9223372036854775806 by omega)]
      exact hh
    · refine ⟨h, Ev.step (fun k => by rw [spec_l01New.l0]) ?_⟩
      simp only [if_pos (show (j : Int) < (l.length : Int) by omega), if_neg c]
      exact ev_some
theorem new_ev (l : List Int) (hl : l.length ≤ 2000000) : ∃ h, Ev (fun k => spec_l01New.f k l) (l, 0, h) := by
  unfold spec_l01New.f
  obtain ⟨h, hh⟩ := new_loop l hl l.length 0 (wrap64 (75075 + (l.length : Int))) (by omega) (by omega)
  exact ⟨h, by simpa using hh⟩
/-- A place in the bytes of a draw. -/
def Pl (l : List Int) (i : Int) : Prop := 0 ≤ i ∧ i ≤ (l.length : Int)
theorem byte_ev (l : List Int) (hl : l.length ≤ 2000000) (i h : Int) (hi : Pl l i) : ∃ r i' h', spec_l01Byte.f l i h = some (r, i', h') ∧ (0 ≤ r ∧ r ≤ 255) ∧ Pl l i' := by
  unfold Pl at *
  unfold spec_l01Byte.f
  by_cases c : i < (l.length : Int)
  · simp only [if_pos c, if_pos hi.1, and255]
    refine ⟨_, _, _, rfl, by omega, ?_⟩
    rw [w64 (by omega) (by omega)]
    omega
  · simp only [if_neg c, and255]
    exact ⟨_, _, _, rfl, by omega, hi⟩
theorem below_ev (l : List Int) (hl : l.length ≤ 2000000) (i h : Int) (hi : Pl l i) (n : Int) (hn : n ≤ 16777216) : ∃ r i' h', spec_l01Below.f l i h n = some (r, i', h') ∧ (0 ≤ r ∧ (r < n ∨ r = 0)) ∧ Pl l i' := by
  unfold spec_l01Below.f
  by_cases c0 : n ≤ 0
  · simp only [if_pos c0]
    exact ⟨_, _, _, rfl, by omega, hi⟩
  · simp only [if_neg c0]
    by_cases c1 : n ≤ 256
    · obtain ⟨r, i', h', e, hr, hp⟩ := byte_ev l hl i h hi
      simp only [if_pos c1, e, Option.bind_some, if_neg (show ¬ n = 0 by omega)]
      refine ⟨_, _, _, rfl, ?_, hp⟩
      rw [Int.tmod_eq_emod_of_nonneg hr.1]
      have := Int.emod_nonneg r (show n ≠ 0 by omega)
      have := Int.emod_lt_of_pos r (show 0 < n by omega)
      omega
    · obtain ⟨r, i', h', e, hr, hp⟩ := byte_ev l hl i h hi
      obtain ⟨r2, i2, h2, e2, hr2, hp2⟩ := byte_ev l hl i' h' hp
      obtain ⟨r3, i3, h3, e3, hr3, hp3⟩ := byte_ev l hl i2 h2 hp2
      simp only [if_neg c1, e, e2, e3, Option.bind_some, if_neg (show ¬ n = 0 by omega)]
      refine ⟨_, _, _, rfl, ?_, hp3⟩
      rw [w64 (x := r * 65536) (by omega) (by omega), w64 (x := r2 * 256) (by omega) (by omega), w64 (x := r * 65536 + r2 * 256) (by omega) (by omega), w64 (x := r * 65536 + r2 * 256 + r3) (by omega) (by omega)]
      rw [Int.tmod_eq_emod_of_nonneg (by omega)]
      have := Int.emod_nonneg (r * 65536 + r2 * 256 + r3) (show n ≠ 0 by omega)
      have := Int.emod_lt_of_pos (r * 65536 + r2 * 256 + r3) (show 0 < n by omega)
      omega
/-- The same where n is above 0. -/
theorem below_pos (l : List Int) (hl : l.length ≤ 2000000) (i h : Int) (hi : Pl l i) (n : Int) (h0 : 0 < n) (hn : n ≤ 16777216) : ∃ r i' h', spec_l01Below.f l i h n = some (r, i', h') ∧ (0 ≤ r ∧ r < n) ∧ Pl l i' := by
  obtain ⟨r, i', h', e, hr, hp⟩ := below_ev l hl i h hi n hn
  exact ⟨r, i', h', e, by omega, hp⟩
theorem pl0 (l : List Int) : Pl l 0 := by unfold Pl; omega
/-- The last front, or what stands ahead. -/
def endF (last : Int) : List S51 → Int
  | [] => last
  | t :: ts => endF t.f1 ts
theorem okL_append (n : Int) (t : S51) : ∀ (ts : List S51) (last : Int), okL n last ts = true → endF last ts < t.f0 → t.f0 ≤ t.f1 → t.f1 < n → okL n last (ts ++ [t]) = true
  | [], last, _, h1, h2, h3 => by
    simp only [endF] at h1
    simp [okL, show ¬ t.f0 ≤ last by omega, show ¬ t.f1 < t.f0 by omega, show ¬ t.f1 ≥ n by omega]
  | x :: ts, last, h, h1, h2, h3 => by
    simp only [okL, List.cons_append] at h ⊢
    by_cases c1 : x.f0 ≤ last
    · simp [c1] at h
    · by_cases c2 : x.f1 < x.f0
      · simp [c1, c2] at h
      · by_cases c3 : x.f1 ≥ n
        · simp [c1, c2, c3] at h
        · rw [if_neg c1, if_neg c2, if_neg c3] at h ⊢
          exact okL_append n t ts x.f1 h h1 h2 h3
theorem endF_append (t : S51) : ∀ (ts : List S51) (last : Int), endF last (ts ++ [t]) = t.f1
  | [], _ => rfl
  | x :: ts, _ => endF_append t ts x.f1
theorem draw_trains_loop (l : List Int) (hl : l.length ≤ 2000000) (n : Int) (hn : 1 ≤ n ∧ n ≤ 100) (m : Nat) : ∀ (acc : List S51) (at_ : Int) (i h : Int), 4 - acc.length = m → acc.length ≤ 4 → okL n (-1) acc = true → endF (-1) acc < at_ → 0 ≤ at_ → at_ ≤ 1000 → Pl l i →
    ∃ ts i' h', Ev (fun k => spec_l05DrawTrains.l0 k n acc at_ l i h) (ts, i', h') ∧ ts.length ≤ 4 ∧ okL n (-1) ts = true ∧ Pl l i' := by
  induction m with
  | zero =>
    intro acc at_ i h h0 h1 h2 h3 h4 h5 hi
    refine ⟨acc, i, h, Ev.step (fun k => by rw [spec_l05DrawTrains.l0]) ?_, h1, h2, hi⟩
    by_cases c : at_ < n
    · simp only [if_pos c, show decide ((acc.length : Int) < 4) = false from decide_eq_false (by omega)]
      exact Ev.step (fun k => by rw [spec_l05DrawTrains.j1]) (by simpa using ev_some)
    · simp only [if_neg c]
      exact Ev.step (fun k => by rw [spec_l05DrawTrains.j1]) (by simpa using ev_some)
  | succ m ih =>
    intro acc at_ i h h0 h1 h2 h3 h4 h5 hi
    by_cases c : at_ < n
    · obtain ⟨r, i1, e1, hb, hr, hp⟩ := below_pos l hl i h hi 3 (by omega) (by omega)
      obtain ⟨s, i2, e2, hb2, hs, hp2⟩ := below_pos l hl i1 e1 hp 4 (by omega) (by omega)
      by_cases c2 : at_ + r ≥ n
      · have hok := okL_append n ⟨at_, n - 1⟩ acc (-1) h2 h3 (by simp only; omega) (by simp only; omega)
        have hen := endF_append ⟨at_, n - 1⟩ acc (-1)
        obtain ⟨ts, i', h', hev, a1, a2, a3⟩ := ih (acc ++ [⟨at_, n - 1⟩]) (n - 1 + 1 + s) i2 e2 (by simp; omega) (by simp; omega) hok (by rw [hen]; simp only; omega) (by omega) (by omega) hp2
        refine ⟨ts, i', h', Ev.step (fun k => by rw [spec_l05DrawTrains.l0]) ?_, a1, a2, a3⟩
        simp only [if_pos c, show decide ((acc.length : Int) < 4) = true from decide_eq_true (by omega)]
        refine Ev.step (fun k => by rw [spec_l05DrawTrains.j1]) ?_
        simp only [if_true, hb, Option.bind_some, w64 (x := at_ + r) (by omega) (by omega), if_pos c2, if_pos (show acc.length < 8796093022208 by omega), hb2, w64 (x := n - 1) (by omega) (by omega), w64 (x := n - 1 + 1) (by omega) (by omega), w64 (x := n - 1 + 1 + s) (by omega) (by omega)]
        exact hev
      · have hok := okL_append n ⟨at_, at_ + r⟩ acc (-1) h2 h3 (by simp only; omega) (by simp only; omega)
        have hen := endF_append ⟨at_, at_ + r⟩ acc (-1)
        obtain ⟨ts, i', h', hev, a1, a2, a3⟩ := ih (acc ++ [⟨at_, at_ + r⟩]) (at_ + r + 1 + s) i2 e2 (by simp; omega) (by simp; omega) hok (by rw [hen]; simp only; omega) (by omega) (by omega) hp2
        refine ⟨ts, i', h', Ev.step (fun k => by rw [spec_l05DrawTrains.l0]) ?_, a1, a2, a3⟩
        simp only [if_pos c, show decide ((acc.length : Int) < 4) = true from decide_eq_true (by omega)]
        refine Ev.step (fun k => by rw [spec_l05DrawTrains.j1]) ?_
        simp only [if_true, hb, Option.bind_some, w64 (x := at_ + r) (by omega) (by omega), if_neg c2, if_pos (show acc.length < 8796093022208 by omega), hb2, w64 (x := at_ + r + 1) (by omega) (by omega), w64 (x := at_ + r + 1 + s) (by omega) (by omega)]
        exact hev
    · refine ⟨acc, i, h, Ev.step (fun k => by rw [spec_l05DrawTrains.l0]) ?_, h1, h2, hi⟩
      simp only [if_neg c]
      exact Ev.step (fun k => by rw [spec_l05DrawTrains.j1]) (by simpa using ev_some)
theorem draw_moves_loop (l : List Int) (hl : l.length ≤ 2000000) (m : Nat) : ∀ (acc : List Int) (i h : Int), acc.length + m ≤ 1000 → Pl l i →
    ∃ ms i' h', Ev (fun k => spec_l05DrawMoves.l0 k acc (m : Int) l i h) (acc ++ ms, i', h') ∧ ms.length = m ∧ ∀ x ∈ ms, -1 ≤ x ∧ x ≤ 8 := by
  induction m with
  | zero =>
    intro acc i h h0 hi
    refine ⟨[], i, h, Ev.step (fun k => by rw [spec_l05DrawMoves.l0]) ?_, rfl, by simp⟩
    simp only [if_neg (show ¬ ((0 : Nat) : Int) > 0 by omega), List.append_nil]
    exact ev_some
  | succ m ih =>
    intro acc i h h0 hi
    obtain ⟨r, i1, e1, hb, hr, hp⟩ := below_pos l hl i h hi 9 (by omega) (by omega)
    obtain ⟨s, i2, e2, hb2, hs, hp2⟩ := below_pos l hl i1 e1 hp 20 (by omega) (by omega)
    have hd : Int.tdiv s 19 = s / 19 := Int.tdiv_eq_ediv_of_nonneg (by omega)
    obtain ⟨ms, i', h', hev, hlen', hall⟩ := ih (acc ++ [r - s / 19]) i2 e2 (by simp; omega) hp2
    refine ⟨(r - s / 19) :: ms, i', h', Ev.step (fun k => by rw [spec_l05DrawMoves.l0]) ?_, by simp [hlen'], ?_⟩
    · simp only [if_pos (show ((m + 1 : Nat) : Int) > 0 by omega), hb, hb2, Option.bind_some, if_pos (show acc.length < 17592186044416 by omega), hd, w64 (x := s / 19) (by omega) (by omega), w64 (x := r - s / 19) (by omega) (by omega)]
      rw [show ((m + 1 : Nat) : Int) - 1 = (m : Int) by omega, w64 (x := (m : Int)) (by omega) (by omega)]
      simpa using hev
    · intro x hx
      rcases List.mem_cons.1 hx with rfl | hx
      · omega
      · exact hall x hx
theorem size_eq (l : List Int) (hl : l.length ≤ 2000000) (n : Int) (hn : 2 ≤ n ∧ n ≤ 1000) : ∃ s, spec_l01Size.f l n = some s ∧ 2 ≤ s ∧ s ≤ n := by
  unfold spec_l01Size.f
  rw [w64 (x := (l.length : Int) / 16) (by omega) (by omega), w64 (x := 2 + (l.length : Int) / 16) (by omega) (by omega)]
  by_cases c : 2 + (l.length : Int) / 16 > n
  · simp only [if_pos c]; exact ⟨_, rfl, by omega, by omega⟩
  · simp only [if_neg c]; exact ⟨_, rfl, by omega, by omega⟩
theorem draw_right_ev (l : List Int) (hl : l.length ≤ 2000000) : ∃ n ts ms, Ev (fun k => spec_DrawRightTrains.f k l) (n, ts, ms) ∧ okT n ts = true ∧ ms.length ≤ 100 ∧ ∀ x ∈ ms, -1 ≤ x ∧ x ≤ 8 := by
  unfold spec_DrawRightTrains.f
  obtain ⟨h0, e0⟩ := new_ev l hl
  obtain ⟨r, i1, h1, e1, hr, hp1⟩ := below_pos l hl 0 h0 (pl0 l) 14 (by omega) (by omega)
  obtain ⟨a, i2, h2, e2, ha, hp2⟩ := below_pos l hl i1 h1 hp1 3 (by omega) (by omega)
  obtain ⟨ts, i3, h3, e3, ht1, ht2, hp3⟩ := draw_trains_loop l hl (2 + r) (by omega) 4 [] a i2 h2 rfl (by simp) rfl (by simp only [endF]; omega) ha.1 (by omega) hp2
  obtain ⟨s, es, hs1, hs2⟩ := size_eq l hl 20 (by omega)
  obtain ⟨c, i4, h4, e4, hc, hp4⟩ := below_pos l hl i3 h3 hp3 (4 + 2 * s) (by omega) (by omega)
  obtain ⟨cn, rfl⟩ : ∃ cn : Nat, c = cn := ⟨c.toNat, by omega⟩
  obtain ⟨ms, i5, h5, e5, hm1, hm2⟩ := draw_moves_loop l hl cn [] i4 h4 (by simp; omega) hp4
  refine ⟨2 + r, ts, ms, ?_, ?_, by omega, hm2⟩
  · refine Ev.bind e0 ?_
    simp only [e1, Option.bind_some, w64 (x := 2 + r) (by omega) (by omega)]
    refine Ev.bind (a := (ts, i3, h3)) ?_ ?_
    · unfold spec_l05DrawTrains.f
      simp only [e2, Option.bind_some]
      exact e3
    · refine Ev.bind (a := (ms, i5, h5)) ?_ ?_
      · unfold spec_l05DrawMoves.f
        simp only [es, Option.bind_some, w64 (x := 2 * s) (by omega) (by omega), w64 (x := 4 + 2 * s) (by omega) (by omega), e4]
        simpa using e5
      · exact ev_some
  · unfold okT
    simp only [Bool.and_eq_true, decide_eq_true_eq]
    exact ⟨⟨by omega, by omega⟩, ht2⟩
theorem impl_taken_in (n : Nat) (ts : List S51) (hn : n ≤ 100) (j : Nat) (r0 r1 : Int) (h1 : r1 < n) (R : List Bool) (d : Nat) : ∀ (cur : Int) (f : Nat → Bool), (r1 + 1 - cur).toNat = d → 0 ≤ cur → cur ≤ 100 →
    Ev (fun k => impl_takenBy.l0 k ((List.range n).map (fun b : Nat => f b || decide (cur ≤ (b : Int) ∧ (b : Int) ≤ r1))) ts (ts.length : Int) (wrap64 ((j : Int) + 1))) R →
    Ev (fun k => impl_takenBy.l1 k ((List.range n).map f) cur ts (ts.length : Int) (j : Int) r0 r1) R := by
  induction d with
  | zero =>
    intro cur f hd h0 h2 hR
    refine Ev.step (fun k => by rw [impl_takenBy.l1]) ?_
    simp only [if_neg (show ¬ cur ≤ r1 by omega)]
    have e : (List.range n).map (fun b : Nat => f b || decide (cur ≤ (b : Int) ∧ (b : Int) ≤ r1)) = (List.range n).map f := by
      refine List.map_congr_left fun b _ => ?_
      rw [decide_eq_false (by omega), Bool.or_false]
    rw [e] at hR
    exact hR
  | succ d ih =>
    intro cur f hd h0 h2 hR
    refine Ev.step (fun k => by rw [impl_takenBy.l1]) ?_
    simp only [if_pos (show cur ≤ r1 by omega), if_pos h0, List.length_map, List.length_range, if_pos (show cur < (n : Int) by omega)]
    rw [w64 (x := cur + 1) (by omega) (by omega), range_set n f cur.toNat (by omega)]
    refine ih (cur + 1) _ (by omega) (by omega) (by omega) ?_
    have e : (List.range n).map (fun b : Nat => (f b || decide (b = cur.toNat)) || decide (cur + 1 ≤ (b : Int) ∧ (b : Int) ≤ r1)) = (List.range n).map (fun b : Nat => f b || decide (cur ≤ (b : Int) ∧ (b : Int) ≤ r1)) := by
      refine List.map_congr_left fun b _ => ?_
      rw [Bool.or_assoc]
      congr 1
      rw [Bool.eq_iff_iff]
      simp only [Bool.or_eq_true, decide_eq_true_eq]
      omega
    rw [e]
    exact hR
theorem impl_taken_out (n : Nat) (ts : List S51) (hn : n ≤ 100) (hl : ts.length ≤ 2000000) : ∀ (rest : List S51) (j : Nat) (f : Nat → Bool), ts.drop j = rest → (∀ t ∈ rest, 0 ≤ t.f0 ∧ t.f0 ≤ t.f1 ∧ t.f1 < n) →
    Ev (fun k => impl_takenBy.l0 k ((List.range n).map f) ts (ts.length : Int) (j : Int)) ((List.range n).map (fun b : Nat => f b || cov rest (b : Int))) := by
  intro rest
  induction rest with
  | nil =>
    intro j f h _
    have := drop_nil h
    refine Ev.step (fun k => by rw [impl_takenBy.l0]) ?_
    simp only [if_neg (show ¬ (j : Int) < (ts.length : Int) by omega), cov, List.any_nil, Bool.or_false]
    exact ev_some
  | cons t rest ih =>
    intro j f h hb
    obtain ⟨h1, h2, h3⟩ := drop_cons h
    have ht := hb t (by simp)
    refine Ev.step (fun k => by rw [impl_takenBy.l0]) ?_
    simp only [if_pos (show (j : Int) < (ts.length : Int) by omega), if_pos (show 0 ≤ (j : Int) by omega), rd_T51, Int.toNat_natCast, h2]
    refine impl_taken_in n ts hn j t.f0 t.f1 ht.2.2 _ _ t.f0 f rfl ht.1 (by omega) ?_
    rw [nat_w (by omega)]
    have := ih (j + 1) (fun b : Nat => f b || decide (t.f0 ≤ (b : Int) ∧ (b : Int) ≤ t.f1)) h3 (fun x hx => hb x (by simp [hx]))
    simpa [cov, Bool.or_assoc] using this
theorem impl_taken0_ev (n : Int) (ts : List S51) (h : okT n ts = true) : Ev (fun k => impl_takenBy.f k n ts) (takenL n ts) := by
  obtain ⟨h1, h2, h3⟩ := okT_spec h
  have hm := okT_mem h
  unfold impl_takenBy.f
  simp only [if_pos (show 0 ≤ n by omega), if_pos (show n.toNat ≤ 281474976710656 by omega)]
  have h4 := impl_taken_out n.toNat ts (by omega) (by omega) ts 0 (fun _ => false) (by simp) (fun t ht => by have := hm t ht; omega)
  have e : (List.range n.toNat).map (fun _ => false) = List.replicate n.toNat false := by
    apply List.ext_getElem?
    intro i
    by_cases hi : i < n.toNat <;> simp [hi, List.getElem?_replicate]
  rw [e] at h4
  simpa [takenL] using h4

/-- What Forward answers for a right list of trains, a place in it and an aspect beyond. -/
def fwd1 (n : Int) (ts : List S51) (j : Nat) (b : Int) : List S51 × Bool :=
  if (ts.getD j z51).f1 + 1 = n then (if b = 0 then ([], false) else (ts.take j ++ ts.drop (j + 1), true))
  else if cov ts ((ts.getD j z51).f1 + 1) = true then ([], false) else (ts.set j ⟨(ts.getD j z51).f0, (ts.getD j z51).f1 + 1⟩, true)
def forwardR (n : Int) (ts : List S51) (k b : Int) : List S51 × Bool := if okT n ts = true ∧ (0 ≤ k ∧ k < (ts.length : Int)) ∧ (0 ≤ b ∧ b ≤ 3) then fwd1 n ts k.toNat b else ([], false)
theorem takenL_at (n : Int) (ts : List S51) (p : Nat) (h : (p : Int) < n) : (takenL n ts).getD p false = cov ts (p : Int) := by
  unfold takenL
  rw [List.getD_eq_getElem?_getD, List.getElem?_map, List.getElem?_range (by omega)]; rfl
theorem impl_goOn_ev (n : Int) (ts : List S51) (h : okT n ts = true) (j : Nat) (hj : j < ts.length) (b : Int) : Ev (fun k => impl_goOn.f k n ts (j : Int) b) (fwd1 n ts j b) := by
  have hm := okT_mem h _ (getD_mem hj)
  have hs := okT_spec h
  unfold impl_goOn.f fwd1
  simp only [if_pos (show 0 ≤ (j : Int) by omega), if_pos (show (j : Int) < (ts.length : Int) by omega), rdS_at, Int.toNat_natCast, Option.bind_some, List.nil_append, List.length_nil, w64 (x := (ts.getD j z51).f1 + 1) (by omega) (by omega), nat_w (show j ≤ 9223372036854775806 by omega)]
  by_cases c1 : (ts.getD j z51).f1 + 1 = n
  · simp only [if_pos c1]
    by_cases c2 : b = 0
    · simp only [if_pos c2]; exact ev_some
    · simp only [if_neg c2, if_pos (show (j : Int) ≤ (ts.length : Int) by omega), if_pos (show 0 + (ts.take j).length < 8796093022208 by simp; omega), if_pos (show 0 ≤ ((j + 1 : Nat) : Int) by omega), if_pos (show ((j + 1 : Nat) : Int) ≤ (ts.length : Int) by omega), if_pos (show (ts.take j).length + (ts.drop (j + 1)).length < 8796093022208 by simp; omega)]
      exact ev_some
  · simp only [if_neg c1]
    refine Ev.bind (impl_taken0_ev n ts h) ?_
    have hlen := takenL_length n ts
    simp only [if_pos (show 0 ≤ (ts.getD j z51).f1 + 1 by omega), if_pos (show (ts.getD j z51).f1 + 1 < ((takenL n ts).length : Int) by omega)]
    have ht := takenL_at n ts ((ts.getD j z51).f1 + 1).toNat (by omega)
    rw [show ((((ts.getD j z51).f1 + 1).toNat : Nat) : Int) = (ts.getD j z51).f1 + 1 by omega] at ht
    have hrd : rdOf false (takenL n ts) ((ts.getD j z51).f1 + 1) = cov ts ((ts.getD j z51).f1 + 1) := ht
    simp only [hrd]
    by_cases c2 : cov ts ((ts.getD j z51).f1 + 1) = true
    · simp only [if_pos c2]; exact ev_some
    · simp only [if_neg c2, if_pos (show 0 + ts.length < 8796093022208 by omega)]
      exact ev_some
theorem spec_taken_in (n : Int) (ts : List S51) (hl : ts.length ≤ 2000000) (acc : List Bool) (ha : acc.length ≤ 1000) (b : Nat) (R : List Bool) : ∀ (rest : List S51) (j : Nat) (on : Bool), ts.drop j = rest →
    Ev (fun k => spec_TakenBy.l0 k n ts (acc ++ [on || cov rest (b : Int)]) (wrap64 ((b : Int) + 1))) R → Ev (fun k => spec_TakenBy.l1 k n ts acc (b : Int) on (j : Int)) R := by
  intro rest
  induction rest with
  | nil =>
    intro j on h hR
    have := drop_nil h
    refine Ev.step (fun k => by rw [spec_TakenBy.l1]) ?_
    simp only [if_neg (show ¬ (j : Int) < (ts.length : Int) by omega), if_pos (show acc.length < 140737488355328 by omega)]
    simpa [cov] using hR
  | cons t rest ih =>
    intro j on h hR
    obtain ⟨h1, h2, h3⟩ := drop_cons h
    refine Ev.step (fun k => by rw [spec_TakenBy.l1]) ?_
    simp only [if_pos (show (j : Int) < (ts.length : Int) by omega), if_pos (show 0 ≤ (j : Int) by omega), rd_T51, Int.toNat_natCast, h2, spec_in, Option.bind_some, decide_eq_true_eq, nat_w (show j ≤ 9223372036854775806 by omega)]
    by_cases c : t.f0 ≤ (b : Int) ∧ (b : Int) ≤ t.f1
    · simp only [if_pos c]
      refine ih (j + 1) true h3 ?_
      simpa [cov, c] using hR
    · simp only [if_neg c]
      refine ih (j + 1) on h3 ?_
      have hc : decide (t.f0 ≤ (b : Int) ∧ (b : Int) ≤ t.f1) = false := decide_eq_false c
      have e : cov (t :: rest) (b : Int) = cov rest (b : Int) := by simp only [cov, List.any_cons, hc, Bool.false_or]
      rw [e] at hR
      exact hR
theorem spec_taken_out (n : Nat) (ts : List S51) (hn : n ≤ 100) (hl : ts.length ≤ 2000000) (m : Nat) : ∀ j : Nat, n - j = m → j ≤ n → Ev (fun k => spec_TakenBy.l0 k (n : Int) ts ((List.range j).map (fun b : Nat => cov ts (b : Int))) (j : Int)) ((List.range n).map (fun b : Nat => cov ts (b : Int))) := by
  induction m with
  | zero =>
    intro j h0 h1
    obtain rfl : j = n := by omega
    refine Ev.step (fun k => by rw [spec_TakenBy.l0]) ?_
    simp only [if_neg (show ¬ (j : Int) < (j : Int) by omega)]
    exact ev_some
  | succ m ih =>
    intro j h0 h1
    refine Ev.step (fun k => by rw [spec_TakenBy.l0]) ?_
    simp only [if_pos (show (j : Int) < (n : Int) by omega)]
    refine spec_taken_in n ts hl _ (by simp; omega) j _ ts 0 false (by simp) ?_
    rw [nat_w (by omega)]
    have := ih (j + 1) (by omega) (by omega)
    rw [List.range_succ, List.map_append] at this
    simpa using this
theorem spec_taken_ev (n : Int) (ts : List S51) (hl : ts.length ≤ 2000000) : Ev (fun k => spec_TakenBy.f k n ts) (takenR n ts) := by
  unfold spec_TakenBy.f takenR
  refine Ev.bind (spec_ok_ev n ts hl) ?_
  by_cases h : okT n ts = true
  · simp only [if_pos h]
    obtain ⟨h1, h2, h3⟩ := okT_spec h
    have := spec_taken_out n.toNat ts (by omega) hl n.toNat 0 (by omega) (by omega)
    rw [show ((n.toNat : Nat) : Int) = n by omega] at this
    simpa [takenL] using this
  · simp only [if_neg h]
    exact ev_some
/-- How many are free from the head on. -/
def freeN : List Bool → Nat
  | [] => 0
  | true :: _ => 0
  | false :: xs => freeN xs + 1
theorem freeN_le : ∀ xs : List Bool, freeN xs ≤ xs.length
  | [] => by simp [freeN]
  | true :: xs => by simp [freeN]
  | false :: xs => by have := freeN_le xs; simp [freeN]; omega
/-- The aspect of the signal ahead of these blocks. -/
def asp (beyond : Int) : List Bool → Int
  | [] => beyond
  | true :: _ => 0
  | false :: xs => if asp beyond xs + 1 > 3 then 3 else asp beyond xs + 1
def aspL (beyond : Int) : List Bool → List Int
  | [] => []
  | b :: xs => asp beyond (b :: xs) :: aspL beyond xs
theorem aspL_length (beyond : Int) : ∀ xs, (aspL beyond xs).length = xs.length
  | [] => rfl
  | b :: xs => by simp [aspL, aspL_length beyond xs]
theorem asp_free (beyond : Int) (h0 : 0 ≤ beyond) (h3 : beyond ≤ 3) : ∀ xs : List Bool, asp beyond xs = if freeN xs = xs.length then (if (freeN xs : Int) + beyond > 3 then 3 else (freeN xs : Int) + beyond) else (if (freeN xs : Int) > 3 then 3 else (freeN xs : Int))
  | [] => by simp [asp, freeN]; omega
  | true :: xs => by simp [asp, freeN]
  | false :: xs => by
    have ih := asp_free beyond h0 h3 xs
    simp only [asp, freeN, List.length_cons]
    rw [ih]
    by_cases h : freeN xs = xs.length
    · simp only [if_pos h, if_pos (show freeN xs + 1 = xs.length + 1 by omega)]
      split <;> split <;> omega
    · simp only [if_neg h, if_neg (show ¬ freeN xs + 1 = xs.length + 1 by omega)]
      split <;> split <;> omega
theorem asp_bd (beyond : Int) (h0 : 0 ≤ beyond) (h3 : beyond ≤ 3) (xs : List Bool) : 0 ≤ asp beyond xs ∧ asp beyond xs ≤ 3 := by
  rw [asp_free beyond h0 h3]
  split <;> split <;> omega
/-- What Aspects answers. -/
def aspR (xs : List Bool) (b : Int) : List Int := if xs.length ≤ 100 ∧ 0 ≤ b ∧ b ≤ 3 then aspL b xs else []
theorem spec_free_loop (xs : List Bool) (hn : xs.length ≤ 2000000) (a : Nat) : ∀ (rest : List Bool) (j : Nat), xs.drop (a + j) = rest → a + j ≤ xs.length → Ev (fun k => spec_FreeFrom.l0 k xs (a : Int) (j : Int)) ((j + freeN rest : Nat) : Int) := by
  intro rest
  induction rest with
  | nil =>
    intro j h hl
    have := drop_nil h
    refine Ev.step (fun k => by rw [spec_FreeFrom.l0]) ?_
    rw [w64 (x := (a : Int) + j) (by omega) (by omega)]
    simp only [if_neg (show ¬ (a : Int) + j < (xs.length : Int) by omega)]
    exact ev_some
  | cons t rest ih =>
    intro j h hl
    obtain ⟨h1, h2, h3⟩ := drop_cons h
    refine Ev.step (fun k => by rw [spec_FreeFrom.l0]) ?_
    rw [w64 (x := (a : Int) + j) (by omega) (by omega), nat_w (by omega)]
    simp only [if_pos (show (a : Int) + j < (xs.length : Int) by omega), if_pos (show 0 ≤ (a : Int) + j by omega), rdOf, show ((a : Int) + j).toNat = a + j by omega, h2]
    cases t with
    | true => simpa [freeN] using ev_some
    | false =>
      have h4 := ih (j + 1) (by rw [← h3, Nat.add_assoc]) (by omega)
      simp only [freeN, Bool.false_eq_true, if_false]
      rw [show j + (freeN rest + 1) = j + 1 + freeN rest by omega]
      exact h4
theorem spec_free_ev (xs : List Bool) (hn : xs.length ≤ 100) (j : Nat) (hj : j < xs.length) : Ev (fun k => spec_FreeFrom.f k xs (j : Int)) ((freeN (xs.drop j) : Nat) : Int) := by
  unfold spec_FreeFrom.f
  simp only [if_neg (show ¬ (xs.length : Int) > 100 by omega), spec_in, Option.bind_some]
  rw [w64 (x := (xs.length : Int) - 1) (by omega) (by omega)]
  simp only [show (0 ≤ (j : Int) ∧ (j : Int) ≤ (xs.length : Int) - 1) by omega, and_self, decide_true, Bool.not_true]
  refine Ev.step (fun k => by rw [spec_FreeFrom.j0]) ?_
  simp only [Bool.false_eq_true, if_false]
  have h := spec_free_loop xs (by omega) j (xs.drop j) 0 rfl (by omega)
  simpa using h
theorem spec_asp_loop (xs : List Bool) (hn : xs.length ≤ 100) (b : Int) (h0 : 0 ≤ b) (h3 : b ≤ 3) : ∀ (rest : List Bool) (j : Nat) (acc : List Int), xs.drop j = rest → j ≤ xs.length → acc.length = j → Ev (fun k => spec_Aspects.l0 k xs b acc (j : Int)) (acc ++ aspL b rest) := by
  intro rest
  induction rest with
  | nil =>
    intro j acc h hj hl
    have := drop_nil h
    refine Ev.step (fun k => by rw [spec_Aspects.l0]) ?_
    simp only [if_neg (show ¬ (j : Int) < (xs.length : Int) by omega), aspL, List.append_nil]
    exact ev_some
  | cons t rest ih =>
    intro j acc h hj hl
    obtain ⟨h1, h2, hd⟩ := drop_cons h
    have hf := spec_free_ev xs hn j h1
    rw [h] at hf
    refine Ev.step (fun k => by rw [spec_Aspects.l0]) ?_
    simp only [if_pos (show (j : Int) < (xs.length : Int) by omega), nat_w (show j ≤ 9223372036854775806 by omega)]
    refine Ev.bind hf ?_
    have hle := freeN_le (t :: rest)
    have hlen : xs.length = j + (t :: rest).length := by rw [← h, List.length_drop]; omega
    have ha := asp_free b h0 h3 (t :: rest)
    rw [w64 (x := (j : Int) + (freeN (t :: rest) : Int)) (by omega) (by omega), w64 (x := (freeN (t :: rest) : Int) + b) (by omega) (by omega)]
    simp only [if_pos (show acc.length < 17592186044416 by omega)]
    have hgo := fun v => ih (j + 1) (acc ++ [v]) hd (by omega) (by simp; omega)
    have he : ∀ v, asp b (t :: rest) = v → acc ++ aspL b (t :: rest) = acc ++ [v] ++ aspL b rest := fun v hv => by rw [← hv]; simp [aspL]
    by_cases c1 : (j : Int) + (freeN (t :: rest) : Int) = (xs.length : Int)
    · rw [if_pos (by omega)] at ha
      simp only [if_pos c1]
      by_cases c2 : (freeN (t :: rest) : Int) + b > 3
      · rw [if_pos c2] at ha
        simp only [if_pos c2]
        rw [he _ ha]; exact hgo _
      · rw [if_neg c2] at ha
        simp only [if_neg c2]
        rw [he _ ha]; exact hgo _
    · rw [if_neg (by omega)] at ha
      simp only [if_neg c1]
      by_cases c2 : (freeN (t :: rest) : Int) > 3
      · rw [if_pos c2] at ha
        simp only [if_pos c2]
        rw [he _ ha]; exact hgo _
      · rw [if_neg c2] at ha
        simp only [if_neg c2]
        rw [he _ ha]; exact hgo _
theorem spec_aspects_ev (xs : List Bool) (hn : xs.length ≤ 2000000) (b : Int) : Ev (fun k => spec_Aspects.f k xs b) (aspR xs b) := by
  unfold spec_Aspects.f aspR
  by_cases h : xs.length ≤ 100
  · simp only [if_neg (show ¬ (xs.length : Int) > 100 by omega), spec_in, Option.bind_some]
    refine Ev.step (fun k => by rw [spec_Aspects.j0]) ?_
    by_cases hb : 0 ≤ b ∧ b ≤ 3
    · have h2 := spec_asp_loop xs h b hb.1 hb.2 xs 0 [] (by simp) (by omega) rfl
      simpa [hb, h] using h2
    · simpa [hb] using ev_some
  · simp only [if_pos (show (xs.length : Int) > 100 by omega), h, false_and, if_false]
    exact Ev.step (fun k => by rw [spec_Aspects.j0]) (by simpa using ev_some)
/-- The trains with another one at place k, or without it. -/
def putL (k : Int) (t : S51) (gone : Bool) : Nat → List S51 → List S51
  | _, [] => []
  | i, x :: xs => (if (i : Int) = k then (if gone = true then [] else [t]) else [x]) ++ putL k t gone (i + 1) xs
theorem putL_past (k : Int) (t : S51) (gone : Bool) : ∀ (i : Nat) (xs : List S51), k < (i : Int) → putL k t gone i xs = xs
  | _, [], _ => rfl
  | i, x :: xs, h => by
    simp only [putL, if_neg (show ¬ (i : Int) = k by omega)]
    rw [putL_past k t gone (i + 1) xs (by omega)]; rfl
theorem putL_gone (t : S51) : ∀ (xs : List S51) (i j : Nat), putL ((i + j : Nat) : Int) t true i xs = xs.take j ++ xs.drop (j + 1)
  | [], i, j => by simp [putL]
  | x :: xs, i, 0 => by
    simp only [putL, Nat.add_zero, if_true, List.take_zero, List.nil_append]
    rw [putL_past _ t true (i + 1) xs (by omega)]; simp
  | x :: xs, i, j + 1 => by
    simp only [putL, if_neg (show ¬ (i : Int) = ((i + (j + 1) : Nat) : Int) by omega)]
    have := putL_gone t xs (i + 1) j
    rw [show i + 1 + j = i + (j + 1) by omega] at this
    rw [this]; simp
theorem putL_set (t : S51) : ∀ (xs : List S51) (i j : Nat), putL ((i + j : Nat) : Int) t false i xs = xs.set j t
  | [], i, j => by simp [putL]
  | x :: xs, i, 0 => by
    simp only [putL, Nat.add_zero, if_true, Bool.false_eq_true, if_false]
    rw [putL_past _ t false (i + 1) xs (by omega)]; simp
  | x :: xs, i, j + 1 => by
    simp only [putL, if_neg (show ¬ (i : Int) = ((i + (j + 1) : Nat) : Int) by omega)]
    have := putL_set t xs (i + 1) j
    rw [show i + 1 + j = i + (j + 1) by omega] at this
    rw [this]; simp
theorem spec_put_loop (xs : List S51) (hn : xs.length ≤ 2000000) (k0 : Int) (t : S51) (gone : Bool) : ∀ (rest : List S51) (j : Nat) (acc : List S51), xs.drop j = rest → j ≤ xs.length → acc.length ≤ j → Ev (fun k => spec_l05Put.l0 k xs k0 gone acc (j : Int) t.f0 t.f1) (acc ++ putL k0 t gone j rest) := by
  intro rest
  induction rest with
  | nil =>
    intro j acc h hj hl
    have := drop_nil h
    refine Ev.step (fun k => by rw [spec_l05Put.l0]) ?_
    simp only [if_neg (show ¬ (j : Int) < (xs.length : Int) by omega), putL, List.append_nil]
    exact ev_some
  | cons x rest ih =>
    intro j acc h hj hl
    obtain ⟨h1, h2, h3⟩ := drop_cons h
    refine Ev.step (fun k => by rw [spec_l05Put.l0]) ?_
    simp only [if_pos (show (j : Int) < (xs.length : Int) by omega), if_pos (show 0 ≤ (j : Int) by omega), rdS_at, h2, nat_w (show j ≤ 9223372036854775806 by omega), if_pos (show acc.length < 8796093022208 by omega), putL]
    by_cases c : (j : Int) = k0
    · simp only [if_pos c]
      by_cases g : gone = true
      · simp only [if_pos g, List.nil_append]
        exact ih (j + 1) acc h3 (by omega) (by omega)
      · simp only [if_neg g]
        have := ih (j + 1) (acc ++ [t]) h3 (by omega) (by simp; omega)
        rw [List.append_assoc] at this
        exact this
    · simp only [if_neg c]
      have := ih (j + 1) (acc ++ [x]) h3 (by omega) (by simp; omega)
      rw [List.append_assoc] at this
      exact this
theorem spec_put_ev (xs : List S51) (hn : xs.length ≤ 2000000) (k0 : Int) (t : S51) (gone : Bool) : Ev (fun k => spec_l05Put.f k xs k0 t.f0 t.f1 gone) (putL k0 t gone 0 xs) := by
  unfold spec_l05Put.f
  have := spec_put_loop xs hn k0 t gone xs 0 [] (by simp) (by omega) (by simp)
  simpa using this
theorem aspL_at (b : Int) : ∀ (xs : List Bool) (j : Nat), j < xs.length → (aspL b xs).getD j 0 = asp b (xs.drop j)
  | [], j, h => by simp at h
  | x :: xs, 0, _ => rfl
  | x :: xs, j + 1, h => by simpa [aspL] using aspL_at b xs j (by simpa using h)
theorem asp_red (b : Int) (h0 : 0 ≤ b) (h3 : b ≤ 3) : ∀ (xs : List Bool), (asp b xs = 0) ↔ (match xs with | [] => b = 0 | x :: _ => x = true)
  | [] => by simp [asp]
  | true :: xs => by simp [asp]
  | false :: xs => by
    have := asp_bd b h0 h3 xs
    simp only [asp]
    split <;> simp <;> omega
theorem spec_forward_ev (n : Int) (ts : List S51) (k0 b : Int) (hl : ts.length ≤ 2000000) : Ev (fun k => spec_Forward.f k n ts k0 b) (forwardR n ts k0 b) := by
  unfold spec_Forward.f forwardR
  refine Ev.bind (spec_ok_ev n ts hl) ?_
  by_cases h : okT n ts = true
  · simp only [h, if_true, true_and, spec_in, Option.bind_some, decide_eq_true_eq]
    rw [w64 (x := (ts.length : Int) - 1) (by omega) (by omega)]
    by_cases hk : 0 ≤ k0 ∧ k0 < (ts.length : Int)
    · obtain ⟨j, rfl⟩ : ∃ j : Nat, k0 = j := ⟨k0.toNat, by omega⟩
      have hj : j < ts.length := by omega
      have hm := okT_mem h _ (getD_mem hj)
      have hs := okT_spec h
      simp only [if_pos (show 0 ≤ (j : Int) ∧ (j : Int) ≤ (ts.length : Int) - 1 by omega)]
      simp only [hk, true_and, and_self, Int.toNat_natCast]
      refine Ev.step (fun k => by rw [spec_Forward.j0]) ?_
      by_cases hb : 0 ≤ b ∧ b ≤ 3
      · simp only [hb, and_self, decide_true, Bool.not_true, Bool.false_eq_true, if_false, if_true, if_pos (show 0 ≤ (j : Int) by omega), if_pos (show (j : Int) < (ts.length : Int) by omega), rdS_at, fwd1]
        rw [w64 (x := n - 1) (by omega) (by omega), w64 (x := (ts.getD j z51).f1 + 1) (by omega) (by omega)]
        by_cases c1 : (ts.getD j z51).f1 = n - 1
        · simp only [if_pos c1, if_pos (show (ts.getD j z51).f1 + 1 = n by omega)]
          by_cases c2 : b = 0
          · simp only [if_pos c2]; exact ev_some
          · simp only [if_neg c2]
            have hp := spec_put_ev ts hl (j : Int) (ts.getD j z51) true
            have he := putL_gone (ts.getD j z51) ts 0 j
            rw [Nat.zero_add] at he
            rw [he] at hp
            exact Ev.bind hp ev_some
        · simp only [if_neg c1, if_neg (show ¬ (ts.getD j z51).f1 + 1 = n by omega)]
          refine Ev.bind (spec_taken_ev n ts hl) ?_
          have htr : takenR n ts = takenL n ts := by unfold takenR; rw [if_pos h]
          have hlen := takenL_length n ts
          rw [htr]
          refine Ev.bind (spec_aspects_ev _ (by omega) b) ?_
          have har : aspR (takenL n ts) b = aspL b (takenL n ts) := by unfold aspR; rw [if_pos ⟨by omega, hb.1, hb.2⟩]
          rw [har]
          have hal := aspL_length b (takenL n ts)
          simp only [if_pos (show 0 ≤ (ts.getD j z51).f1 + 1 by omega), if_pos (show (ts.getD j z51).f1 + 1 < ((aspL b (takenL n ts)).length : Int) by omega)]
          obtain ⟨p, hp⟩ : ∃ p : Nat, (ts.getD j z51).f1 + 1 = p := ⟨((ts.getD j z51).f1 + 1).toNat, by omega⟩
          have hpl : p < (takenL n ts).length := by omega
          simp only [hp, rdI_at, aspL_at b _ p hpl]
          have hd : (takenL n ts).drop p = (takenL n ts)[p]'hpl :: (takenL n ts).drop (p + 1) := List.drop_eq_getElem_cons hpl
          have hr := asp_red b hb.1 hb.2 ((takenL n ts).drop p)
          rw [hd] at hr
          simp only at hr
          rw [← hd] at hr
          have hc : (takenL n ts)[p]'hpl = cov ts (p : Int) := by
            rw [← takenL_at n ts p (by omega), List.getD_eq_getElem?_getD, List.getElem?_eq_getElem hpl]; rfl
          rw [hc] at hr
          by_cases c2 : cov ts (p : Int) = true
          · simp only [if_pos (hr.2 c2), if_pos c2]; exact ev_some
          · simp only [if_neg (show ¬ asp b ((takenL n ts).drop p) = 0 from fun x => c2 (hr.1 x)), if_neg c2]
            have hq := spec_put_ev ts hl (j : Int) ⟨(ts.getD j z51).f0, (p : Int)⟩ false
            have he := putL_set ⟨(ts.getD j z51).f0, (p : Int)⟩ ts 0 j
            rw [Nat.zero_add] at he
            rw [he] at hq
            exact Ev.bind hq ev_some
      · simp only [hb, decide_false, Bool.not_false, if_true, if_false]
        exact ev_some
    · simp only [if_neg (show ¬ ((0 ≤ k0 ∧ k0 < (ts.length : Int)) ∧ 0 ≤ b ∧ b ≤ 3) from fun x => hk x.1), if_neg (show ¬ (0 ≤ k0 ∧ k0 ≤ (ts.length : Int) - 1) by omega)]
      refine Ev.step (fun k => by rw [spec_Forward.j0]) ?_
      simp only [if_true]
      exact ev_some
  · simp only [if_neg h, if_neg (show ¬ (okT n ts = true ∧ (0 ≤ k0 ∧ k0 < (ts.length : Int)) ∧ 0 ≤ b ∧ b ≤ 3) from fun x => h x.1)]
    refine Ev.step (fun k => by rw [spec_Forward.j0]) ?_
    simp only [if_true]
    exact ev_some
/-- What Shrink answers for a right list of trains and a place in it. -/
def shr1 (ts : List S51) (j : Nat) : List S51 × Bool := if (ts.getD j z51).f0 = (ts.getD j z51).f1 then ([], false) else (ts.set j ⟨(ts.getD j z51).f0 + 1, (ts.getD j z51).f1⟩, true)
def shrinkR (n : Int) (ts : List S51) (k : Int) : List S51 × Bool := if okT n ts = true ∧ 0 ≤ k ∧ k < (ts.length : Int) then shr1 ts k.toNat else ([], false)
theorem impl_draw_ev (n : Int) (ts : List S51) (h : okT n ts = true) (j : Nat) (hj : j < ts.length) : impl_drawUp.f ts (j : Int) = some (shr1 ts j) := by
  have hm := okT_mem h _ (getD_mem hj)
  have hs := okT_spec h
  unfold impl_drawUp.f shr1
  simp only [if_pos (show 0 ≤ (j : Int) by omega), if_pos (show (j : Int) < (ts.length : Int) by omega), rdS_at, Int.toNat_natCast, Option.bind_some, List.nil_append, List.length_nil, if_pos (show 0 + ts.length < 8796093022208 by omega)]
  split
  · rfl
  · rw [w64 (by omega) (by omega)]
theorem spec_shrink_ev (n : Int) (ts : List S51) (k0 : Int) (hl : ts.length ≤ 2000000) : Ev (fun k => spec_Shrink.f k n ts k0) (shrinkR n ts k0) := by
  unfold spec_Shrink.f shrinkR
  refine Ev.bind (spec_ok_ev n ts hl) ?_
  by_cases h : okT n ts = true
  · simp only [h, if_true, true_and, spec_in, Option.bind_some, decide_eq_true_eq]
    rw [w64 (x := (ts.length : Int) - 1) (by omega) (by omega)]
    by_cases hk : 0 ≤ k0 ∧ k0 < (ts.length : Int)
    · obtain ⟨j, rfl⟩ : ∃ j : Nat, k0 = j := ⟨k0.toNat, by omega⟩
      have hj : j < ts.length := by omega
      have hm := okT_mem h _ (getD_mem hj)
      have hs := okT_spec h
      simp only [if_pos (show 0 ≤ (j : Int) ∧ (j : Int) ≤ (ts.length : Int) - 1 by omega)]
      simp only [hk, and_self, if_true, rdS_at, Int.toNat_natCast, shr1]
      by_cases c : (ts.getD j z51).f0 = (ts.getD j z51).f1
      · simp only [if_pos c]; exact ev_some
      · simp only [if_neg c]
        rw [w64 (by omega) (by omega)]
        have hp := spec_put_ev ts hl (j : Int) ⟨(ts.getD j z51).f0 + 1, (ts.getD j z51).f1⟩ false
        have he := putL_set ⟨(ts.getD j z51).f0 + 1, (ts.getD j z51).f1⟩ ts 0 j
        rw [Nat.zero_add] at he
        rw [he] at hp
        exact Ev.bind hp ev_some
    · simp only [if_neg hk, if_neg (show ¬ (0 ≤ k0 ∧ k0 ≤ (ts.length : Int) - 1) by omega)]
      exact ev_some
  · simp only [if_neg h, if_neg (show ¬ (okT n ts = true ∧ 0 ≤ k0 ∧ k0 < (ts.length : Int)) from fun x => h x.1)]
    exact ev_some
/-- A train that goes on onto a free block leaves the trains in order. -/
theorem okL_set (n : Int) : ∀ (ts : List S51) (last : Int) (j : Nat), okL n last ts = true → j < ts.length → (ts.getD j z51).f1 + 1 < n → cov ts ((ts.getD j z51).f1 + 1) = false → okL n last (ts.set j ⟨(ts.getD j z51).f0, (ts.getD j z51).f1 + 1⟩) = true
  | [], last, j, _, h, _, _ => by simp at h
  | x :: ts, last, 0, h, _, hn, hc => by
    simp only [List.getD_cons_zero, List.set_cons_zero] at *
    simp only [okL] at h ⊢
    by_cases c1 : x.f0 ≤ last
    · simp [c1] at h
    · by_cases c2 : x.f1 < x.f0
      · simp [c1, c2] at h
      · by_cases c3 : x.f1 ≥ n
        · simp [c1, c2, c3] at h
        · rw [if_neg c1, if_neg c2, if_neg c3] at h
          rw [if_neg c1, if_neg (by omega), if_neg (by omega)]
          cases ts with
          | nil => rfl
          | cons u us =>
            simp only [okL] at h ⊢
            by_cases d1 : u.f0 ≤ x.f1
            · simp [d1] at h
            · by_cases d2 : u.f1 < u.f0
              · simp [d1, d2] at h
              · rw [if_neg d1, if_neg d2] at h
                have hnc : ¬ (u.f0 ≤ x.f1 + 1 ∧ x.f1 + 1 ≤ u.f1) := by
                  intro hu
                  have : cov (x :: u :: us) (x.f1 + 1) = true := by simp [cov, hu]
                  rw [this] at hc
                  cases hc
                rw [if_neg (by omega), if_neg d2]
                exact h
  | x :: ts, last, j + 1, h, hj, hn, hc => by
    simp only [List.getD_cons_succ, List.set_cons_succ] at *
    simp only [okL] at h ⊢
    by_cases c1 : x.f0 ≤ last
    · simp [c1] at h
    · by_cases c2 : x.f1 < x.f0
      · simp [c1, c2] at h
      · by_cases c3 : x.f1 ≥ n
        · simp [c1, c2, c3] at h
        · rw [if_neg c1, if_neg c2, if_neg c3] at h ⊢
          refine okL_set n ts x.f1 j h (by simpa using hj) hn ?_
          simp only [cov, List.any_cons, Bool.or_eq_false_iff] at hc
          exact hc.2
/-- .. one whose rear is drawn up, too. -/
theorem okL_shrink (n : Int) : ∀ (ts : List S51) (last : Int) (j : Nat), okL n last ts = true → (ts.getD j z51).f0 < (ts.getD j z51).f1 → okL n last (ts.set j ⟨(ts.getD j z51).f0 + 1, (ts.getD j z51).f1⟩) = true
  | [], last, j, h, _ => by simpa using h
  | x :: ts, last, 0, h, hlt => by
    simp only [List.getD_cons_zero, List.set_cons_zero] at *
    simp only [okL] at h ⊢
    by_cases c1 : x.f0 ≤ last
    · simp [c1] at h
    · by_cases c2 : x.f1 < x.f0
      · simp [c1, c2] at h
      · by_cases c3 : x.f1 ≥ n
        · simp [c1, c2, c3] at h
        · rw [if_neg c1, if_neg c2, if_neg c3] at h
          rw [if_neg (by omega), if_neg (by omega), if_neg c3]
          exact h
  | x :: ts, last, j + 1, h, hlt => by
    simp only [List.getD_cons_succ, List.set_cons_succ] at *
    simp only [okL] at h ⊢
    by_cases c1 : x.f0 ≤ last
    · simp [c1] at h
    · by_cases c2 : x.f1 < x.f0
      · simp [c1, c2] at h
      · by_cases c3 : x.f1 ≥ n
        · simp [c1, c2, c3] at h
        · rw [if_neg c1, if_neg c2, if_neg c3] at h ⊢
          exact okL_shrink n ts x.f1 j h hlt
theorem okT_of {n : Int} {ts ts' : List S51} (h : okT n ts = true) (hl : ts'.length ≤ ts.length) (h' : okL n (-1) ts' = true) : okT n ts' = true := by
  have hs := okT_spec h
  unfold okT
  simp only [Bool.and_eq_true, decide_eq_true_eq]
  exact ⟨⟨hs.1, by omega⟩, h'⟩
theorem set_getD {ts : List S51} {j : Nat} (h : j < ts.length) (x : S51) : (ts.set j x).getD j z51 = x := by
  rw [List.getD_eq_getElem?_getD, List.getElem?_set_self h]; rfl
theorem at_nonneg (l : List Int) (hl : l.length ≤ 2000000) (hb : ∀ x ∈ l, (Lit.int .u8 x).wf = true) (i : Nat) (hi : i ≤ 1000) : ∃ r, laws_at.f l (i : Int) = some r ∧ 0 ≤ r ∧ r ≤ 255 := by
  unfold laws_at.f
  by_cases c : i < l.length
  · rw [if_pos (show (i : Int) < (l.length : Int) by omega), if_pos (show 0 ≤ (i : Int) by omega), rdI_at]
    have hm : l.getD i 0 ∈ l := by
      rw [List.getD_eq_getElem?_getD, List.getElem?_eq_getElem c]; exact List.getElem_mem c
    have := wf_u8 (hb _ hm)
    rw [w64 (by omega) (by omega)]
    exact ⟨_, rfl, by omega, by omega⟩
  · rw [if_neg (show ¬ (i : Int) < (l.length : Int) by omega)]
    rw [w64 (x := (i : Int) * 11) (by omega) (by omega), w64 (x := (l.length : Int) * 3) (by omega) (by omega), w64 (by omega) (by omega)]
    refine ⟨_, rfl, ?_⟩
    rw [Int.tmod_eq_emod_of_nonneg (by omega)]
    omega
theorem okL_weak (n : Int) : ∀ (ts : List S51) (a b : Int), b ≤ a → okL n a ts = true → okL n b ts = true
  | [], _, _, _, _ => rfl
  | x :: ts, a, b, hab, h => by
    simp only [okL] at h ⊢
    by_cases c1 : x.f0 ≤ a
    · simp [c1] at h
    · rw [if_neg c1] at h
      rw [if_neg (show ¬ x.f0 ≤ b by omega)]
      exact h
theorem okL_gone (n : Int) : ∀ (ts : List S51) (last : Int) (j : Nat), okL n last ts = true → okL n last (ts.take j ++ ts.drop (j + 1)) = true
  | [], _, _, _ => by simp [okL]
  | x :: ts, last, 0, h => by
    simp only [List.take_zero, List.nil_append, Nat.zero_add, List.drop_one, List.tail_cons]
    simp only [okL] at h
    by_cases c1 : x.f0 ≤ last
    · simp [c1] at h
    · by_cases c2 : x.f1 < x.f0
      · simp [c1, c2] at h
      · by_cases c3 : x.f1 ≥ n
        · simp [c1, c2, c3] at h
        · rw [if_neg c1, if_neg c2, if_neg c3] at h
          exact okL_weak n ts x.f1 last (by omega) h
  | x :: ts, last, j + 1, h => by
    simp only [List.take_succ_cons, List.drop_succ_cons, List.cons_append]
    simp only [okL] at h ⊢
    by_cases c1 : x.f0 ≤ last
    · simp [c1] at h
    · by_cases c2 : x.f1 < x.f0
      · simp [c1, c2] at h
      · by_cases c3 : x.f1 ≥ n
        · simp [c1, c2, c3] at h
        · rw [if_neg c1, if_neg c2, if_neg c3] at h ⊢
          exact okL_gone n ts x.f1 j h
/-- One move. -/
def go1 (n b : Int) (ts : List S51) (m : Int) : List S51 × Bool := if 0 ≤ m ∧ m / 2 < (ts.length : Int) then (if m % 2 = 0 then fwd1 n ts (m / 2).toNat b else shr1 ts (m / 2).toNat) else ([], false)
def mv (n b : Int) (s : List S51 × Int) (m : Int) : List S51 × Int := if (go1 n b s.1 m).2 = true then ((go1 n b s.1 m).1, s.2) else (s.1, s.2 + 1)
def drvL (n b : Int) (ts : List S51) (r : Int) (ms : List Int) : List S51 × Int := ms.foldl (mv n b) (ts, r)
/-- Each train is where it was, or further on. -/
def Later (ts ts' : List S51) : Prop := ts'.length = ts.length ∧ ∀ i : Nat, (ts.getD i z51).f0 ≤ (ts'.getD i z51).f0 ∧ (ts.getD i z51).f1 ≤ (ts'.getD i z51).f1
theorem Later.refl (ts : List S51) : Later ts ts := ⟨rfl, fun _ => ⟨Int.le_refl _, Int.le_refl _⟩⟩
theorem Later.trans {a b c : List S51} (h : Later a b) (h' : Later b c) : Later a c := ⟨h'.1.trans h.1, fun i => ⟨Int.le_trans (h.2 i).1 (h'.2 i).1, Int.le_trans (h.2 i).2 (h'.2 i).2⟩⟩
theorem later_set {ts : List S51} {j : Nat} (hj : j < ts.length) {x : S51} (h0 : (ts.getD j z51).f0 ≤ x.f0) (h1 : (ts.getD j z51).f1 ≤ x.f1) : Later ts (ts.set j x) := by
  refine ⟨by rw [List.length_set], fun i => ?_⟩
  by_cases e : i = j
  · subst e
    rw [set_getD hj]; exact ⟨h0, h1⟩
  · have : (ts.set j x).getD i z51 = ts.getD i z51 := by rw [List.getD_eq_getElem?_getD, List.getD_eq_getElem?_getD, List.getElem?_set_ne (fun h => e h.symm)]
    rw [this]; exact ⟨Int.le_refl _, Int.le_refl _⟩
theorem go1_ok {n b : Int} {ts : List S51} (h : okT n ts = true) (m : Int) (hb : (go1 n b ts m).2 = true) : okT n (go1 n b ts m).1 = true ∧ (go1 n b ts m).1.length ≤ ts.length ∧ (b = 0 → Later ts (go1 n b ts m).1) := by
  have hs := okT_spec h
  unfold go1 at hb ⊢
  by_cases c : 0 ≤ m ∧ m / 2 < (ts.length : Int)
  · rw [if_pos c] at hb ⊢
    have hj : (m / 2).toNat < ts.length := by omega
    have hm := okT_mem h _ (getD_mem hj)
    generalize (m / 2).toNat = j at *
    by_cases c2 : m % 2 = 0
    · rw [if_pos c2] at hb ⊢
      unfold fwd1 at hb ⊢
      by_cases c3 : (ts.getD j z51).f1 + 1 = n
      · rw [if_pos c3] at hb ⊢
        by_cases c4 : b = 0
        · rw [if_pos c4] at hb; cases hb
        · rw [if_neg c4] at hb ⊢
          have hl : (ts.take j ++ ts.drop (j + 1)).length ≤ ts.length := by simp; omega
          exact ⟨okT_of h hl (okL_gone n ts (-1) j hs.2.2), hl, fun e => absurd e c4⟩
      · rw [if_neg c3] at hb ⊢
        by_cases c4 : cov ts ((ts.getD j z51).f1 + 1) = true
        · rw [if_pos c4] at hb; cases hb
        · rw [if_neg c4] at hb ⊢
          have hl : (ts.set j ⟨(ts.getD j z51).f0, (ts.getD j z51).f1 + 1⟩).length ≤ ts.length := by rw [List.length_set]; exact Nat.le_refl _
          exact ⟨okT_of h hl (okL_set n ts (-1) j hs.2.2 hj (by omega) (by simpa using c4)), hl, fun _ => later_set hj (Int.le_refl _) (by simp only; omega)⟩
    · rw [if_neg c2] at hb ⊢
      unfold shr1 at hb ⊢
      by_cases c3 : (ts.getD j z51).f0 = (ts.getD j z51).f1
      · rw [if_pos c3] at hb; cases hb
      · rw [if_neg c3] at hb ⊢
        have hl : (ts.set j ⟨(ts.getD j z51).f0 + 1, (ts.getD j z51).f1⟩).length ≤ ts.length := by rw [List.length_set]; exact Nat.le_refl _
        exact ⟨okT_of h hl (okL_shrink n ts (-1) j hs.2.2 (by omega)), hl, fun _ => later_set hj (by simp only; omega) (Int.le_refl _)⟩
  · rw [if_neg c] at hb; cases hb
theorem mv_ok {n b : Int} {ts : List S51} (h : okT n ts = true) (r m : Int) : okT n (mv n b (ts, r) m).1 = true ∧ (mv n b (ts, r) m).1.length ≤ ts.length ∧ (b = 0 → Later ts (mv n b (ts, r) m).1) ∧ (r ≤ (mv n b (ts, r) m).2 ∧ (mv n b (ts, r) m).2 ≤ r + 1) := by
  unfold mv
  by_cases c : (go1 n b ts m).2 = true
  · simp only [if_pos c]
    obtain ⟨h1, h2, h3⟩ := go1_ok h m c
    exact ⟨h1, h2, h3, by omega⟩
  · simp only [if_neg c]
    exact ⟨h, Nat.le_refl _, fun _ => Later.refl ts, by omega⟩
theorem drv_ok {n b : Int} : ∀ (ms : List Int) (ts : List S51) (r : Int), okT n ts = true → okT n (drvL n b ts r ms).1 = true ∧ (drvL n b ts r ms).1.length ≤ ts.length ∧ (b = 0 → Later ts (drvL n b ts r ms).1) ∧ (r ≤ (drvL n b ts r ms).2 ∧ (drvL n b ts r ms).2 ≤ r + ms.length)
  | [], ts, r, h => ⟨h, Nat.le_refl _, fun _ => Later.refl ts, by simp only [drvL, List.foldl_nil, List.length_nil]; omega⟩
  | m :: ms, ts, r, h => by
    obtain ⟨h1, h2, h3, h4⟩ := mv_ok (b := b) h r m
    have e : drvL n b ts r (m :: ms) = drvL n b (mv n b (ts, r) m).1 (mv n b (ts, r) m).2 ms := rfl
    obtain ⟨g1, g2, g3, g4⟩ := drv_ok ms (mv n b (ts, r) m).1 (mv n b (ts, r) m).2 h1
    rw [e]
    refine ⟨g1, by omega, fun hb => Later.trans (h3 hb) (g3 hb), ?_⟩
    rw [List.length_cons]
    omega
theorem drv_shift {n b : Int} : ∀ (ms : List Int) (ts : List S51) (r : Int), drvL n b ts r ms = ((drvL n b ts 0 ms).1, r + (drvL n b ts 0 ms).2)
  | [], ts, r => by simp [drvL]
  | m :: ms, ts, r => by
    have e : ∀ q, drvL n b ts q (m :: ms) = drvL n b (mv n b (ts, q) m).1 (mv n b (ts, q) m).2 ms := fun q => rfl
    have e1 : (mv n b (ts, r) m).1 = (mv n b (ts, 0) m).1 := by unfold mv; simp only; split <;> rfl
    have e2 : (mv n b (ts, r) m).2 = r + (mv n b (ts, 0) m).2 := by
      unfold mv
      simp only
      by_cases c : (go1 n b ts m).2 = true
      · rw [if_pos c, if_pos c]; simp
      · rw [if_neg c, if_neg c]; simp
    rw [e r, e 0, e1, e2, drv_shift ms _ (r + _), drv_shift ms _ (mv n b (ts, 0) m).2, Int.add_assoc]
theorem drv_append {n b : Int} (l l' : List Int) (ts : List S51) : drvL n b ts 0 (l ++ l') = ((drvL n b (drvL n b ts 0 l).1 0 l').1, (drvL n b ts 0 l).2 + (drvL n b (drvL n b ts 0 l).1 0 l').2) := by
  have : drvL n b ts 0 (l ++ l') = drvL n b (drvL n b ts 0 l).1 (drvL n b ts 0 l).2 l' := by unfold drvL; rw [List.foldl_append]
  rw [this, drv_shift]
theorem half {m : Int} (h : 0 ≤ m) (hm : m ≤ 1000) : wrap64 (Int.tdiv m 2) = m / 2 ∧ Int.tmod m 2 = m % 2 := by
  rw [Int.tdiv_eq_ediv_of_nonneg h, Int.tmod_eq_emod_of_nonneg h]
  exact ⟨w64 (by omega) (by omega), rfl⟩
theorem impl_drive_loop (n b : Int) (hb : 0 ≤ b ∧ b ≤ 3) (ms : List Int) (hms : ms.length ≤ 300) : ∀ (rest : List Int) (j : Nat) (ts : List S51) (r : Int), ms.drop j = rest → j ≤ ms.length → okT n ts = true → 0 ≤ r → r ≤ j → (∀ x ∈ rest, -1 ≤ x ∧ x ≤ 8) →
    Ev (fun k => impl_Drive.l0 k n b ts r ms (ms.length : Int) (j : Int)) (drvL n b ts r rest) := by
  intro rest
  induction rest with
  | nil =>
    intro j ts r h hl _ _ _ _
    have := drop_nil h
    refine Ev.step (fun k => by rw [impl_Drive.l0]) ?_
    simp only [if_neg (show ¬ (j : Int) < (ms.length : Int) by omega)]
    exact ev_some
  | cons m rest ih =>
    intro j ts r h hl hok h0 h1 hx
    obtain ⟨a1, a2, a3⟩ := drop_cons h
    have hm := hx m (List.mem_cons_self ..)
    obtain ⟨q1, q2, q3, q4⟩ := mv_ok (b := b) hok r m
    have hgo := ih (j + 1) (mv n b (ts, r) m).1 (mv n b (ts, r) m).2 a3 (by omega) q1 (by omega) (by omega) (fun x hx' => hx x (List.mem_cons_of_mem _ hx'))
    have e : drvL n b ts r (m :: rest) = drvL n b (mv n b (ts, r) m).1 (mv n b (ts, r) m).2 rest := rfl
    rw [e]
    generalize drvL n b (mv n b (ts, r) m).1 (mv n b (ts, r) m).2 rest = R at hgo ⊢
    have hw := nat_w (show j ≤ 9223372036854775806 by omega)
    have hr1 : wrap64 (r + 1) = r + 1 := w64 (by omega) (by omega)
    refine Ev.step (fun k => by rw [impl_Drive.l0]) ?_
    simp only [if_pos (show (j : Int) < (ms.length : Int) by omega), if_pos (show 0 ≤ (j : Int) by omega), rdI_at, a2]
    by_cases c : 0 ≤ m
    · obtain ⟨w1, w2⟩ := half c (by omega)
      simp only [if_pos (show m ≥ 0 from c), w1]
      refine Ev.step (fun k => by rw [impl_Drive.j2]) ?_
      by_cases c2 : m / 2 < (ts.length : Int)
      · simp only [decide_eq_true c2, if_true, w1, w2]
        obtain ⟨i, hi⟩ : ∃ i : Nat, m / 2 = (i : Int) := ⟨(m / 2).toNat, by omega⟩
        have hil : i < ts.length := by omega
        have hgo1 : go1 n b ts m = if m % 2 = 0 then fwd1 n ts i b else shr1 ts i := by unfold go1; rw [if_pos ⟨c, c2⟩, hi, Int.toNat_natCast]
        unfold mv at hgo
        simp only [hgo1] at hgo
        rw [hi]
        by_cases c3 : m % 2 = 0
        · simp only [if_pos c3] at hgo ⊢
          refine Ev.bind (impl_goOn_ev n ts hok i hil b) ?_
          by_cases c4 : (fwd1 n ts i b).2 = true
          · simp only [if_pos c4, hw] at hgo ⊢; exact hgo
          · simp only [if_neg c4, hw, hr1] at hgo ⊢; exact hgo
        · simp only [if_neg c3] at hgo ⊢
          simp only [impl_draw_ev n ts hok i hil, Option.bind_some]
          by_cases c4 : (shr1 ts i).2 = true
          · simp only [if_pos c4, hw] at hgo ⊢; exact hgo
          · simp only [if_neg c4, hw, hr1] at hgo ⊢; exact hgo
      · have hgo1 : go1 n b ts m = ([], false) := by unfold go1; rw [if_neg (fun h => c2 h.2)]
        unfold mv at hgo
        simp only [hgo1, Bool.false_eq_true, if_false] at hgo
        simp only [decide_eq_false c2, Bool.false_eq_true, if_false, hw, hr1]
        exact hgo
    · have hgo1 : go1 n b ts m = ([], false) := by unfold go1; rw [if_neg (fun h => c h.1)]
      unfold mv at hgo
      simp only [hgo1, Bool.false_eq_true, if_false] at hgo
      simp only [if_neg (show ¬ m ≥ 0 from c)]
      refine Ev.step (fun k => by rw [impl_Drive.j2]) ?_
      simp only [Bool.false_eq_true, if_false, hw, hr1]
      exact hgo
theorem impl_drive_ev (n b : Int) (hb : 0 ≤ b ∧ b ≤ 3) (ts : List S51) (hok : okT n ts = true) (ms : List Int) (hms : ms.length ≤ 300) (hx : ∀ x ∈ ms, -1 ≤ x ∧ x ≤ 8) : Ev (fun k => impl_Drive.f k n ts ms b) (drvL n b ts 0 ms) := by
  have hs := okT_spec hok
  have h1 := impl_ok_ev n ts (by omega)
  rw [hok] at h1
  unfold impl_Drive.f
  refine Ev.bind h1 ?_
  simp only [if_true, impl_in, Option.bind_some, decide_eq_true hb, decide_eq_false (show ¬ (ms.length : Int) > 300 by omega)]
  refine Ev.step (fun k => by rw [impl_Drive.j0]) ?_
  simp only [Bool.false_eq_true, if_false, Option.bind_some, List.length_nil, List.nil_append, if_pos (show 0 + ts.length < 8796093022208 by omega)]
  exact impl_drive_loop n b hb ms hms ms 0 ts 0 rfl (by omega) hok (by omega) (by omega) hx
theorem spec_drive_loop (n b : Int) (hb : 0 ≤ b ∧ b ≤ 3) (ms : List Int) (hms : ms.length ≤ 300) : ∀ (rest : List Int) (j : Nat) (ts : List S51) (r : Int), ms.drop j = rest → j ≤ ms.length → okT n ts = true → 0 ≤ r → r ≤ j → (∀ x ∈ rest, -1 ≤ x ∧ x ≤ 8) →
    Ev (fun k => spec_Drive.l0 k n ms b ts r (j : Int)) (drvL n b ts r rest) := by
  intro rest
  induction rest with
  | nil =>
    intro j ts r h hl _ _ _ _
    have := drop_nil h
    refine Ev.step (fun k => by rw [spec_Drive.l0]) ?_
    simp only [if_neg (show ¬ (j : Int) < (ms.length : Int) by omega)]
    exact ev_some
  | cons m rest ih =>
    intro j ts r h hl hok h0 h1 hx
    obtain ⟨a1, a2, a3⟩ := drop_cons h
    have hm := hx m (List.mem_cons_self ..)
    have hs := okT_spec hok
    obtain ⟨q1, q2, q3, q4⟩ := mv_ok (b := b) hok r m
    have hgo := ih (j + 1) (mv n b (ts, r) m).1 (mv n b (ts, r) m).2 a3 (by omega) q1 (by omega) (by omega) (fun x hx' => hx x (List.mem_cons_of_mem _ hx'))
    have e : drvL n b ts r (m :: rest) = drvL n b (mv n b (ts, r) m).1 (mv n b (ts, r) m).2 rest := rfl
    rw [e]
    generalize drvL n b (mv n b (ts, r) m).1 (mv n b (ts, r) m).2 rest = R at hgo ⊢
    have hw := nat_w (show j ≤ 9223372036854775806 by omega)
    have hr1 : wrap64 (r + 1) = r + 1 := w64 (by omega) (by omega)
    refine Ev.step (fun k => by rw [spec_Drive.l0]) ?_
    simp only [if_pos (show (j : Int) < (ms.length : Int) by omega), if_pos (show 0 ≤ (j : Int) by omega), rdI_at, a2, Option.bind_some]
    by_cases c : 0 ≤ m
    · obtain ⟨w1, w2⟩ := half c (by omega)
      simp only [if_pos (show m ≥ 0 from c), w2]
      refine Ev.step (fun k => by rw [spec_Drive.j2]) ?_
      simp only [if_pos (show (j : Int) < (ms.length : Int) by omega), if_pos (show 0 ≤ (j : Int) by omega), rdI_at, a2, w1, if_pos (show m ≥ 0 from c)]
      unfold mv at hgo
      by_cases c3 : m % 2 = 0
      · have hf : forwardR n ts (m / 2) b = go1 n b ts m := by
          unfold forwardR go1
          by_cases c2 : m / 2 < (ts.length : Int)
          · rw [if_pos ⟨hok, ⟨by omega, c2⟩, hb⟩, if_pos ⟨c, c2⟩, if_pos c3]
          · rw [if_neg (fun h => c2 h.2.1.2), if_neg (fun h => c2 h.2)]
        have hfe := spec_forward_ev n ts (m / 2) b (by omega)
        rw [hf] at hfe
        simp only [show ((m % 2 == 0) = true) = True from by simp [c3], if_true]
        refine Ev.bind hfe ?_
        by_cases c4 : (go1 n b ts m).2 = true
        · simp only [if_pos c4, hw] at hgo ⊢; exact hgo
        · simp only [if_neg c4, hw, hr1] at hgo ⊢; exact hgo
      · have hf : shrinkR n ts (m / 2) = go1 n b ts m := by
          unfold shrinkR go1
          by_cases c2 : m / 2 < (ts.length : Int)
          · rw [if_pos ⟨hok, by omega, c2⟩, if_pos ⟨c, c2⟩, if_neg c3]
          · rw [if_neg (fun h => c2 h.2.2), if_neg (fun h => c2 h.2)]
        have hfe := spec_shrink_ev n ts (m / 2) (by omega)
        rw [hf] at hfe
        simp only [show ((m % 2 == 0) = true) = False from by simp [c3], if_false]
        refine Ev.bind hfe ?_
        by_cases c4 : (go1 n b ts m).2 = true
        · simp only [if_pos c4, hw] at hgo ⊢; exact hgo
        · simp only [if_neg c4, hw, hr1] at hgo ⊢; exact hgo
    · have hgo1 : go1 n b ts m = ([], false) := by unfold go1; rw [if_neg (fun h => c h.1)]
      unfold mv at hgo
      simp only [hgo1, Bool.false_eq_true, if_false] at hgo
      simp only [if_neg (show ¬ m ≥ 0 from c)]
      refine Ev.step (fun k => by rw [spec_Drive.j2]) ?_
      simp only [Bool.false_eq_true, if_false, if_pos (show (j : Int) < (ms.length : Int) by omega), if_pos (show 0 ≤ (j : Int) by omega), rdI_at, a2, if_neg (show ¬ m ≥ 0 from c), hw, hr1]
      exact hgo
theorem spec_drive_ev (n b : Int) (hb : 0 ≤ b ∧ b ≤ 3) (ts : List S51) (hok : okT n ts = true) (ms : List Int) (hms : ms.length ≤ 300) (hx : ∀ x ∈ ms, -1 ≤ x ∧ x ≤ 8) : Ev (fun k => spec_Drive.f k n ts ms b) (drvL n b ts 0 ms) := by
  have hs := okT_spec hok
  have h1 := spec_ok_ev n ts (by omega)
  rw [hok] at h1
  unfold spec_Drive.f
  refine Ev.bind h1 ?_
  simp only [if_true, spec_in, Option.bind_some, decide_eq_true hb, decide_eq_false (show ¬ (ms.length : Int) > 300 by omega)]
  refine Ev.step (fun k => by rw [spec_Drive.j0]) ?_
  simp only [Bool.false_eq_true, if_false]
  have hp := spec_put_ev ts (by omega) (-1) ⟨0, 0⟩ false
  rw [putL_past (-1) ⟨0, 0⟩ false 0 ts (by omega)] at hp
  refine Ev.bind hp ?_
  exact spec_drive_loop n b hb ms hms ms 0 ts 0 rfl (by omega) hok (by omega) (by omega) hx
theorem drive_tail (n b : Int) (hb : 0 ≤ b ∧ b ≤ 3) (ts : List S51) (hok : okT n ts = true) (ms : List Int) (hms : ms.length ≤ 300) (hx : ∀ x ∈ ms, -1 ≤ x ∧ x ≤ 8) (d : Nat) : ∀ j : Nat, (drvL n b ts 0 ms).1.length - j = d → j ≤ (drvL n b ts 0 ms).1.length →
    Ev (fun k => laws_FnDrive.l0 k n ts ms b (drvL n b ts 0 ms).1 (drvL n b ts 0 ms).1 (j : Int)) true := by
  obtain ⟨g1, g2, g3, g4⟩ := drv_ok (b := b) ms ts 0 hok
  have hs := okT_spec g1
  have hsp := spec_drive_ev n b hb ts hok ms hms hx
  generalize drvL n b ts 0 ms = A at *
  induction d with
  | zero =>
    intro j h0 h1
    refine Ev.step (fun k => by rw [laws_FnDrive.l0]) ?_
    simp only [if_neg (show ¬ (j : Int) < (A.1.length : Int) by omega)]
    refine Ev.bind hsp ?_
    rw [beq_self_eq_true]; exact ev_some
  | succ d ih =>
    intro j h0 h1
    have hi := ih (j + 1) (by omega) (by omega)
    refine Ev.step (fun k => by rw [laws_FnDrive.l0]) ?_
    simp only [if_pos (show (j : Int) < (A.1.length : Int) by omega), if_pos (show 0 ≤ (j : Int) by omega), beq_self_eq_true, Bool.not_true, Bool.or_false, Bool.false_eq_true, if_false, nat_w (show j ≤ 9223372036854775806 by omega)]
    by_cases c : b = 0
    · obtain ⟨l1, l2⟩ := g3 c
      have l3 := l2 j
      simp only [if_pos c, rdS_at, if_pos (show (j : Int) < (ts.length : Int) by omega), if_neg (show ¬ (A.1.getD j z51).f1 < (ts.getD j z51).f1 by omega), if_neg (show ¬ (A.1.getD j z51).f0 < (ts.getD j z51).f0 by omega)]
      exact hi
    · simp only [if_neg c]; exact hi
theorem drive_j1 (n b : Int) (hb : 0 ≤ b ∧ b ≤ 3) (ts : List S51) (hok : okT n ts = true) (ms : List Int) (hms : ms.length ≤ 300) (hx : ∀ x ∈ ms, -1 ≤ x ∧ x ≤ 8) (i : Nat) (hi : i ≤ ms.length) :
    Ev (fun k => laws_FnDrive.j1 k n ts ms b (drvL n b ts 0 ms).1 (drvL n b ts 0 ms).2 (i : Int)) true := by
  have hx1 : ∀ x ∈ ms.take i, -1 ≤ x ∧ x ≤ 8 := fun x h => hx x (List.mem_of_mem_take h)
  have hx2 : ∀ x ∈ ms.drop i, -1 ≤ x ∧ x ≤ 8 := fun x h => hx x (List.mem_of_mem_drop h)
  have hl1 : (ms.take i).length ≤ 300 := by rw [List.length_take]; omega
  have hl2 : (ms.drop i).length ≤ 300 := by rw [List.length_drop]; omega
  have h1 := impl_drive_ev n b hb ts hok (ms.take i) hl1 hx1
  obtain ⟨g1, g2, g3, g4⟩ := drv_ok (b := b) (ms.take i) ts 0 hok
  have h2 := impl_drive_ev n b hb _ g1 (ms.drop i) hl2 hx2
  obtain ⟨k1, k2, k3, k4⟩ := drv_ok (b := b) (ms.drop i) (drvL n b ts 0 (ms.take i)).1 0 g1
  have happ := drv_append (n := n) (b := b) (ms.take i) (ms.drop i) ts
  rw [List.take_append_drop] at happ
  refine Ev.step (fun k => by rw [laws_FnDrive.j1]) ?_
  simp only [if_pos (show 0 ≤ (i : Int) by omega), if_pos (show (i : Int) ≤ (ms.length : Int) by omega), Int.toNat_natCast]
  refine Ev.bind h1 (Ev.bind h2 ?_)
  have ht := drive_tail n b hb ts hok ms hms hx _ 0 rfl (Nat.zero_le _)
  have e1 : (drvL n b ts 0 ms).1 = (drvL n b (drvL n b ts 0 (ms.take i)).1 0 (ms.drop i)).1 := by rw [happ]
  have e2 : (drvL n b ts 0 ms).2 = (drvL n b ts 0 (ms.take i)).2 + (drvL n b (drvL n b ts 0 (ms.take i)).1 0 (ms.drop i)).2 := by rw [happ]
  rw [← e1, ← e2]
  obtain ⟨_, _, _, m4⟩ := drv_ok (b := b) ms ts 0 hok
  simp only [w64 (x := (drvL n b ts 0 ms).2) (by omega) (by omega), if_true, bne_self_eq_false]
  refine Ev.step (fun k => by rw [laws_FnDrive.j2]) ?_
  simp only [Bool.false_eq_true, if_false]
  exact ht
theorem FnDrive : laws_FnDrive.PureR := by
  intro l ⟨_, hb⟩
  refine Ev.rounds ?_
  unfold laws_FnDrive.f laws_big.f
  simp only [Option.bind_some, decide_eq_true_eq]
  by_cases h : (l.length : Int) > 1048576
  · simp only [if_pos h]; exact ev_some
  · simp only [if_neg h]
    have hll : l.length ≤ 2000000 := by omega
    obtain ⟨n, ts, ms, ed, hok, hms, hx⟩ := draw_right_ev l hll
    refine Ev.bind ed ?_
    obtain ⟨q, eq, bq⟩ := at_nonneg l hll hb 4 (by omega)
    have eq' : laws_at.f l 4 = some q := eq
    obtain ⟨q5, eq5, bq5⟩ := at_nonneg l hll hb 5 (by omega)
    have eq5' : laws_at.f l 5 = some q5 := eq5
    obtain ⟨b, eb⟩ : ∃ b, Int.tmod q 4 = b := ⟨_, rfl⟩
    have hb2 : 0 ≤ b ∧ b ≤ 3 := by rw [← eb, Int.tmod_eq_emod_of_nonneg (by omega)]; omega
    have hdr := impl_drive_ev n b hb2 ts hok ms (by omega) hx
    obtain ⟨g1, g2, g3, g4⟩ := drv_ok (b := b) ms ts 0 hok
    have hs := okT_spec g1
    have hj1 := fun i hi => drive_j1 n b hb2 ts hok ms (by omega) hx i hi
    have hk := impl_ok_ev n (drvL n b ts 0 ms).1 (by omega)
    rw [g1] at hk
    simp only [eq', Option.bind_some, eb]
    refine Ev.bind hdr ?_
    generalize drvL n b ts 0 ms = A at *
    have hj0 : Ev (fun k => laws_FnDrive.j0 k l n ts ms b A.1 A.2 false) true := by
      refine Ev.step (fun k => by rw [laws_FnDrive.j0]) ?_
      simp only [Bool.false_eq_true, if_false]
      by_cases c : (ms.length : Int) > 0
      · simp only [if_pos c, eq5', Option.bind_some, w64 (x := (ms.length : Int) + 1) (by omega) (by omega), if_neg (show ¬ (ms.length : Int) + 1 = 0 by omega)]
        obtain ⟨i, ei, hi⟩ : ∃ i : Nat, Int.tmod q5 ((ms.length : Int) + 1) = (i : Int) ∧ i ≤ ms.length := by
          rw [Int.tmod_eq_emod_of_nonneg (by omega)]
          have h1 := Int.emod_nonneg q5 (show (ms.length : Int) + 1 ≠ 0 by omega)
          have h2 := Int.emod_lt_of_pos q5 (show 0 < (ms.length : Int) + 1 by omega)
          exact ⟨(q5 % ((ms.length : Int) + 1)).toNat, by omega, by omega⟩
        rw [ei]
        exact hj1 i hi
      · simp only [if_neg c]
        exact hj1 0 (by omega)
    simp only [if_neg (show ¬ A.2 < 0 by omega), if_neg (show ¬ A.2 > (ms.length : Int) by omega)]
    refine Ev.bind hk ?_
    simp only [if_true, if_neg (show ¬ (A.1.length : Int) > (ts.length : Int) by omega)]
    by_cases c : b = 0
    · have hlen := (g3 c).1
      simp only [if_pos c, hlen, bne_self_eq_false]
      exact hj0
    · simp only [if_neg c]; exact hj0

end Go.Proofs.Ytmbonjljbienkaa.Pure
