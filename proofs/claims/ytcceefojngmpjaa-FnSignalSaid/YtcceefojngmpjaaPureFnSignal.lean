/- A train goes forward just when the signal ahead of it is not red, onto a block that no train is on, and drawn up again it lies on no more than it did; for every list of bytes. -/
import Derived.Test.YtcceefojngmpjaaRowFnSignal
namespace Go.Proofs.Ytcceefojngmpjaa.Pure
open Go.RowKit Go.Proofs.Ytcceefojngmpjaa.PFnSignal Go.Proofs.YtcceefojngmpjaaW.PrintWords Go.Proofs.YtcceefojngmpjaaW.PrintLast Go.Proofs.YtcceefojngmpjaaW.PrintMore
set_option linter.unusedVariables false
set_option linter.unusedSimpArgs false
theorem w64 {x : Int} (h0 : -9223372036854775808 ≤ x) (h1 : x ≤ 9223372036854775807) : wrap64 x = x := by unfold wrap64; omega
theorem ev_k {α : Type} {g : Nat → Option α} {r : α} (h : ∀ k, g k = some r) : Ev g r := ⟨0, fun k _ => h k⟩
theorem ev_some {α : Type} {r : α} : Ev (fun _ => some r) r := Ev.now r
theorem wf_i64 {x : Int} (h : (Lit.int .i64 x).wf = true) : -9223372036854775808 ≤ x ∧ x ≤ 9223372036854775807 := by
  simp only [Lit.wf, Bool.and_eq_true, decide_eq_true_eq] at h
  have h1 : IntKind.min .i64 = -9223372036854775808 := by decide
  have h2 : IntKind.max .i64 = 9223372036854775807 := by decide
  omega
theorem wf_u8 {x : Int} (h : (Lit.int .u8 x).wf = true) : 0 ≤ x ∧ x ≤ 255 := by
  simp only [Lit.wf, Bool.and_eq_true, decide_eq_true_eq] at h
  have h1 : IntKind.min .u8 = 0 := by decide
  have h2 : IntKind.max .u8 = 255 := by decide
  omega
theorem impl_in (x lo hi : Int) : impl_between.f x lo hi = some (decide (lo ≤ x ∧ x ≤ hi)) := by
  unfold impl_between.f
  by_cases h : x ≥ lo
  · have h' : lo ≤ x := h
    simp [h, h']
  · have h' : ¬ lo ≤ x := h
    simp [h, h']
/-! Loops over lists, whatever the elements. -/
theorem nat_w {j : Nat} (h : j ≤ 9223372036854775806) : wrap64 ((j : Int) + 1) = ((j + 1 : Nat) : Int) := by rw [w64 (by omega) (by omega)]; omega
theorem set_take {α : Type} {acc ys : List α} {j : Nat} (hl : acc.length = ys.length) (ht : acc.take j = ys.take j) (hj : j < ys.length) {v : α} (hv : ys[j]? = some v) : (acc.set j v).take (j + 1) = ys.take (j + 1) := by
  apply List.ext_getElem?
  intro i
  by_cases hi : i < j + 1
  · rw [List.getElem?_take_of_lt hi, List.getElem?_take_of_lt hi]
    by_cases e : i = j
    · subst e
      rw [List.getElem?_set_self (by omega), hv]
    · rw [List.getElem?_set_ne (by omega)]
      have h1 := congrArg (fun l => l[i]?) ht
      simp only [List.getElem?_take_of_lt (show i < j by omega)] at h1
      exact h1
  · rw [List.getElem?_eq_none (by simp; omega), List.getElem?_eq_none (by simp; omega)]
theorem getD_some {α : Type} {xs : List α} {j : Nat} (h : j < xs.length) (d : α) : xs[j]? = some (xs.getD j d) := by
  rw [List.getD_eq_getElem?_getD, List.getElem?_eq_getElem h]; rfl
/-- A loop that writes g of each element of xs into a row of the same length. -/
theorem copy_loop {α β : Type} (g : β → α) (d : β) (xs : List β) (L : Nat → List α → Int → Option (List α)) (hn : xs.length ≤ 9223372036854775806)
    (hs : ∀ k acc (j : Nat), L (k + 1) acc (j : Int) = if j < xs.length then (if j < acc.length then L k (acc.set j (g (xs.getD j d))) (wrap64 ((j : Int) + 1)) else none) else some acc)
    (m : Nat) : ∀ (j : Nat) (acc : List α), xs.length - j = m → j ≤ xs.length → acc.length = xs.length → acc.take j = (xs.map g).take j → Ev (fun k => L k acc (j : Int)) (xs.map g) := by
  induction m with
  | zero =>
    intro j acc h0 h1 h2 h3
    refine Ev.step (fun k => hs k acc j) ?_
    simp only [if_neg (show ¬ j < xs.length by omega)]
    have e : acc = xs.map g := by
      have h4 : acc.take j = acc := List.take_of_length_le (by omega)
      have h5 : (xs.map g).take j = xs.map g := List.take_of_length_le (by simp; omega)
      rw [← h4, h3, h5]
    rw [e]
    exact ev_some
  | succ m ih =>
    intro j acc h0 h1 h2 h3
    refine Ev.step (fun k => hs k acc j) ?_
    simp only [if_pos (show j < xs.length by omega), if_pos (show j < acc.length by omega)]
    rw [nat_w (by omega)]
    refine ih (j + 1) _ (by omega) (by omega) (by simpa using h2) ?_
    refine set_take (by simpa using h2) h3 (by simp; omega) ?_
    rw [List.getElem?_map, getD_some (show j < xs.length by omega) d]
    rfl
/-- A loop that asks each index, and goes on where the answer is yes. -/
theorem all_loop (n : Nat) (L : Nat → Int → Option Bool) (hn : n ≤ 9223372036854775806) (hs : ∀ k (j : Nat), j < n → L (k + 1) (j : Int) = L k (wrap64 ((j : Int) + 1))) (he : ∀ k, L (k + 1) (n : Int) = some true)
    (m : Nat) : ∀ j : Nat, n - j = m → j ≤ n → Ev (fun k => L k (j : Int)) true := by
  induction m with
  | zero =>
    intro j h0 h1
    obtain rfl : j = n := by omega
    exact Ev.step (fun k => he k) ev_some
  | succ m ih =>
    intro j h0 h1
    refine Ev.step (fun k => hs k j (by omega)) ?_
    rw [nat_w (by omega)]
    exact ih (j + 1) (by omega) (by omega)
/-- The elements one behind the other, each turned by f with a number that goes on by c. -/
def marked {α : Type} (c : Int) (f : Int → α → α) : Int → List α → List α
  | _, [] => []
  | s, x :: xs => f s x :: marked c f (s + c) xs
theorem marked_length {α : Type} (c : Int) (f : Int → α → α) : ∀ (s : Int) (xs : List α), (marked c f s xs).length = xs.length
  | _, [] => rfl
  | s, x :: xs => by simp [marked, marked_length c f (s + c) xs]
theorem marked_at {α : Type} (c : Int) (f : Int → α → α) : ∀ (s : Int) (xs : List α) (j : Nat) (d : α), j < xs.length → (marked c f s xs)[j]? = some (f (s + c * j) (xs.getD j d))
  | _, [], j, d, h => by simp at h
  | s, x :: xs, 0, d, _ => by simp [marked]
  | s, x :: xs, j + 1, d, h => by
    have := marked_at c f (s + c) xs j d (by simpa using h)
    simp only [marked, List.getElem?_cons_succ, List.getD_cons_succ]
    rw [this]
    congr 2
    rw [Int.natCast_succ, Int.mul_add]; omega
/-- A loop that marks a row. -/
theorem mark_loop {α : Type} (c : Nat) (hc : c ≤ 8) (f : Int → α → α) (d : α) (xs : List α) (L : Nat → List α → Int → Int → Option (Int × List α)) (hn : xs.length ≤ 2000000) (s0 : Nat) (hs0 : s0 ≤ 20000000)
    (hs : ∀ k acc (s : Nat) (j : Nat), acc.length = xs.length → s ≤ 40000000 → j < xs.length → L (k + 1) acc (s : Int) (j : Int) = L k (acc.set j (f (s : Int) (acc.getD j d))) ((s + c : Nat) : Int) (wrap64 ((j : Int) + 1)))
    (he : ∀ k acc (s : Int), acc.length = xs.length → L (k + 1) acc s (xs.length : Int) = some (s, acc))
    (m : Nat) : ∀ (j : Nat) (acc : List α), xs.length - j = m → j ≤ xs.length → acc.length = xs.length → acc.take j = (marked c f s0 xs).take j → acc.drop j = xs.drop j → Ev (fun k => L k acc ((s0 + c * j : Nat) : Int) (j : Int)) (((s0 + c * xs.length : Nat) : Int), marked c f s0 xs) := by
  induction m with
  | zero =>
    intro j acc h0 h1 h2 h3 _
    obtain rfl : j = xs.length := by omega
    refine Ev.step (fun k => he k acc _ h2) ?_
    have e : acc = marked c f s0 xs := by
      have h4 : acc.take xs.length = acc := List.take_of_length_le (by omega)
      have h5 : (marked c f s0 xs).take xs.length = marked c f s0 xs := List.take_of_length_le (by rw [marked_length]; omega)
      rw [← h4, h3, h5]
    rw [e]
    exact ev_some
  | succ m ih =>
    intro j acc h0 h1 h2 h3 h4
    have hb : c * j ≤ 8 * 2000000 := Nat.mul_le_mul hc (by omega)
    refine Ev.step (fun k => hs k acc _ j h2 (by omega) (by omega)) ?_
    rw [nat_w (by omega), show s0 + c * j + c = s0 + c * (j + 1) by rw [Nat.mul_add]; omega]
    have hg : acc.getD j d = xs.getD j d := by
      have h5 := congrArg (fun l => l[0]?) h4
      simp only [List.getElem?_drop, Nat.add_zero] at h5
      rw [List.getD_eq_getElem?_getD, List.getD_eq_getElem?_getD, h5]
    refine ih (j + 1) _ (by omega) (by omega) (by simpa using h2) ?_ ?_
    · refine set_take (by rw [marked_length]; exact h2) h3 (by rw [marked_length]; omega) ?_
      rw [marked_at c f s0 xs j d (by omega), hg]
      simp
    · rw [List.drop_set_of_lt (by omega), ← List.drop_drop, h4, List.drop_drop]
/-- A loop that looks whether a row is marked so. -/
theorem held_loop (c : Nat) (hc : c ≤ 8) (n : Nat) (L : Nat → Int → Int → Option Int) (hn : n ≤ 2000000) (s0 : Nat) (hs0 : s0 ≤ 20000000)
    (hs : ∀ k (j : Nat), j < n → L (k + 1) ((s0 + c * j : Nat) : Int) (j : Int) = L k ((s0 + c * j + c : Nat) : Int) (wrap64 ((j : Int) + 1)))
    (he : ∀ k (s : Int), L (k + 1) s (n : Int) = some s)
    (m : Nat) : ∀ j : Nat, n - j = m → j ≤ n → Ev (fun k => L k ((s0 + c * j : Nat) : Int) (j : Int)) (((s0 + c * n : Nat) : Int)) := by
  induction m with
  | zero =>
    intro j h0 h1
    obtain rfl : j = n := by omega
    exact Ev.step (fun k => he k _) ev_some
  | succ m ih =>
    intro j h0 h1
    refine Ev.step (fun k => hs k j (by omega)) ?_
    rw [nat_w (by omega), show s0 + c * j + c = s0 + c * (j + 1) by rw [Nat.mul_add]; omega]
    exact ih (j + 1) (by omega) (by omega)
theorem drop_cons {α : Type} {xs : List α} {j : Nat} {t : α} {rest : List α} (h : xs.drop j = t :: rest) : j < xs.length ∧ (∀ d, xs.getD j d = t) ∧ xs.drop (j + 1) = rest := by
  have hj : j < xs.length := by
    rcases Nat.lt_or_ge j xs.length with h1 | h1
    · exact h1
    · rw [List.drop_of_length_le h1] at h; cases h
  rw [List.drop_eq_getElem_cons hj] at h
  injection h with h1 h2
  exact ⟨hj, fun d => by rw [List.getD_eq_getElem?_getD, List.getElem?_eq_getElem hj, ← h1]; rfl, h2⟩
theorem drop_nil {α : Type} {xs : List α} {j : Nat} (h : xs.drop j = []) : xs.length ≤ j := by simpa using h
theorem rdI_at (xs : List Int) (j : Nat) : rd xs (j : Int) = xs.getD j 0 := by unfold rd; rw [Int.toNat_natCast]
theorem rdB_at (xs : List Bool) (j : Nat) : rdOf false xs (j : Int) = xs.getD j false := by unfold rdOf; rw [Int.toNat_natCast]
theorem rdS_at (xs : List S49) (j : Nat) : rd_T49 xs (j : Int) = xs.getD j z49 := by unfold rd_T49; rw [Int.toNat_natCast]
/-- The trains stay in order behind 'last', on n blocks. -/
def okL (n : Int) : Int → List S49 → Bool
  | _, [] => true
  | last, t :: ts => if t.f0 ≤ last then false else if t.f1 < t.f0 then false else if t.f1 ≥ n then false else okL n t.f1 ts
def okT (n : Int) (ts : List S49) : Bool := decide (1 ≤ n ∧ n ≤ 100) && decide (ts.length ≤ 12) && okL n (-1) ts
theorem impl_ok_loop (n : Int) (xs : List S49) (hn : xs.length ≤ 2000000) : ∀ (rest : List S49) (j : Nat) (last : Int), xs.drop j = rest → Ev (fun k => impl_TrainsOk.l0 k n last xs (xs.length : Int) (j : Int)) (okL n last rest) := by
  intro rest
  induction rest with
  | nil =>
    intro j last h
    have := drop_nil h
    refine Ev.step (fun k => by rw [impl_TrainsOk.l0]) ?_
    simp only [if_neg (show ¬ (j : Int) < (xs.length : Int) by omega)]
    exact ev_some
  | cons t rest ih =>
    intro j last h
    obtain ⟨h1, h2, h3⟩ := drop_cons h
    refine Ev.step (fun k => by rw [impl_TrainsOk.l0]) ?_
    simp only [if_pos (show (j : Int) < (xs.length : Int) by omega), if_pos (show 0 ≤ (j : Int) by omega), rd_T49, Int.toNat_natCast, h2, nat_w (show j ≤ 9223372036854775806 by omega), okL]
    by_cases c1 : t.f0 ≤ last
    · simp only [if_pos c1]; exact ev_some
    · by_cases c2 : t.f1 < t.f0
      · simp only [if_neg c1, if_pos c2]; exact ev_some
      · by_cases c3 : t.f1 ≥ n
        · simp only [if_neg c1, if_neg c2, if_pos c3]; exact ev_some
        · simp only [if_neg c1, if_neg c2, if_neg c3]; exact ih (j + 1) _ h3
theorem impl_ok_ev (n : Int) (xs : List S49) (hn : xs.length ≤ 2000000) : Ev (fun k => impl_TrainsOk.f k n xs) (okT n xs) := by
  unfold impl_TrainsOk.f okT
  simp only [impl_in, Option.bind_some]
  by_cases h : 1 ≤ n ∧ n ≤ 100
  · by_cases h2 : xs.length ≤ 12
    · have h3 := impl_ok_loop n xs hn xs 0 (-1) (by simp)
      simp only [h, and_self, decide_true, if_true, h2, Bool.true_and]
      simpa [show ¬ (xs.length : Int) > 12 by omega] using h3
    · simp only [h, and_self, decide_true, if_true, h2, decide_false, Bool.and_false, Bool.false_and]
      simpa [show (xs.length : Int) > 12 by omega] using ev_some
  · simp only [h, decide_false, Bool.false_eq_true, if_false, Bool.false_and]
    exact ev_some
/-- Does a train lie on block b? -/
def cov (ts : List S49) (b : Int) : Bool := ts.any (fun t => decide (t.f0 ≤ b ∧ b ≤ t.f1))
def takenL (n : Int) (ts : List S49) : List Bool := (List.range n.toNat).map (fun b : Nat => cov ts (b : Int))
def takenR (n : Int) (ts : List S49) : List Bool := if okT n ts = true then takenL n ts else []
theorem takenL_length (n : Int) (ts : List S49) : (takenL n ts).length = n.toNat := by simp [takenL]
theorem okL_mem (n : Int) : ∀ (ts : List S49) (last : Int), okL n last ts = true → ∀ t ∈ ts, last < t.f0 ∧ t.f0 ≤ t.f1 ∧ t.f1 < n
  | [], _, _, t, ht => by simp at ht
  | x :: ts, last, h, t, ht => by
    simp only [okL] at h
    by_cases c1 : x.f0 ≤ last
    · simp [c1] at h
    · by_cases c2 : x.f1 < x.f0
      · simp [c1, c2] at h
      · by_cases c3 : x.f1 ≥ n
        · simp [c1, c2, c3] at h
        · rw [if_neg c1, if_neg c2, if_neg c3] at h
          rcases List.mem_cons.1 ht with rfl | ht
          · omega
          · have := okL_mem n ts x.f1 h t ht
            omega
theorem okT_spec {n : Int} {ts : List S49} (h : okT n ts = true) : (1 ≤ n ∧ n ≤ 100) ∧ ts.length ≤ 12 ∧ okL n (-1) ts = true := by
  unfold okT at h
  simp only [Bool.and_eq_true, decide_eq_true_eq] at h
  exact ⟨h.1.1, h.1.2, h.2⟩
theorem okT_mem {n : Int} {ts : List S49} (h : okT n ts = true) : ∀ t ∈ ts, 0 ≤ t.f0 ∧ t.f0 ≤ t.f1 ∧ t.f1 < n := fun t ht => by
  have := okL_mem n ts (-1) (okT_spec h).2.2 t ht
  omega
theorem range_set (n : Nat) (f : Nat → Bool) (p : Nat) (hp : p < n) : ((List.range n).map f).set p true = (List.range n).map (fun b => f b || decide (b = p)) := by
  apply List.ext_getElem?
  intro i
  by_cases hi : i < n
  · by_cases e : i = p
    · subst e
      rw [List.getElem?_set_self (by simpa using hi)]
      simp [hi]
    · rw [List.getElem?_set_ne (by omega)]
      simp [hi, e]
  · rw [List.getElem?_eq_none (by simp; omega), List.getElem?_eq_none (by simp; omega)]
theorem getD_mem {ts : List S49} {j : Nat} (h : j < ts.length) : ts.getD j z49 ∈ ts := by
  rw [List.getD_eq_getElem?_getD, List.getElem?_eq_getElem h]; exact List.getElem_mem _
theorem and255 (n : Int) : Go.bits .and .i64 n 255 = n % 256 := by
  have h255 : (BitVec.ofInt 64 255).toNat = 2 ^ 8 - 1 := by decide
  have key : (BitVec.ofInt 64 n &&& BitVec.ofInt 64 255).toNat = (n % ((2 ^ 64 : Nat) : Int)).toNat % 2 ^ 8 := by
    rw [BitVec.toNat_and, BitVec.toNat_ofInt, h255, Nat.and_two_pow_sub_one_eq_mod]
  show Go.IntKind.i64.wrap ((BitVec.ofInt 64 n &&& BitVec.ofInt 64 255).toNat : Nat) = n % 256
  rw [key, Go.IntKind.wrap_i64]
  omega
theorem new_loop (l : List Int) (hl : l.length ≤ 2000000) (m : Nat) : ∀ (j : Nat) (h : Int), l.length - j = m → j ≤ l.length → ∃ h', Ev (fun k => spec_l01New.l0 k l h (j : Int)) (l, 0, h') := by
  induction m with
  | zero =>
    intro j h h0 h1
    refine ⟨h, Ev.step (fun k => by rw [spec_l01New.l0]) ?_⟩
    simp only [if_neg (show ¬ (j : Int) < (l.length : Int) by omega)]
    exact ev_some
  | succ m ih =>
    intro j h h0 h1
    by_cases c : (j : Int) < 4000
    · obtain ⟨h', hh⟩ := ih (j + 1) (Go.bits .and .i64 (wrap64 ((wrap64 ((wrap64 (h * 137)) + (wrap64 (rd l (j : Int))))) + 11)) 1073741823) (by omega) (by omega)
      refine ⟨h', Ev.step (fun k => by rw [spec_l01New.l0]) ?_⟩
      simp only [if_pos (show (j : Int) < (l.length : Int) by omega), if_pos c, if_pos (show 0 ≤ (j : Int) by omega), nat_w (show j ≤ 9223372036854775806 by omega)]
      exact hh
    · refine ⟨h, Ev.step (fun k => by rw [spec_l01New.l0]) ?_⟩
      simp only [if_pos (show (j : Int) < (l.length : Int) by omega), if_neg c]
      exact ev_some
theorem new_ev (l : List Int) (hl : l.length ≤ 2000000) : ∃ h, Ev (fun k => spec_l01New.f k l) (l, 0, h) := by
  unfold spec_l01New.f
  obtain ⟨h, hh⟩ := new_loop l hl l.length 0 (wrap64 (75075 + (l.length : Int))) (by omega) (by omega)
  exact ⟨h, by simpa using hh⟩
/-- A place in the bytes of a draw. -/
def Pl (l : List Int) (i : Int) : Prop := 0 ≤ i ∧ i ≤ (l.length : Int)
theorem byte_ev (l : List Int) (hl : l.length ≤ 2000000) (i h : Int) (hi : Pl l i) : ∃ r i' h', spec_l01Byte.f l i h = some (r, i', h') ∧ (0 ≤ r ∧ r ≤ 255) ∧ Pl l i' := by
  unfold Pl at *
  unfold spec_l01Byte.f
  by_cases c : i < (l.length : Int)
  · simp only [if_pos c, if_pos hi.1, and255]
    refine ⟨_, _, _, rfl, by omega, ?_⟩
    rw [w64 (by omega) (by omega)]
    omega
  · simp only [if_neg c, and255]
    exact ⟨_, _, _, rfl, by omega, hi⟩
theorem below_ev (l : List Int) (hl : l.length ≤ 2000000) (i h : Int) (hi : Pl l i) (n : Int) (hn : n ≤ 16777216) : ∃ r i' h', spec_l01Below.f l i h n = some (r, i', h') ∧ (0 ≤ r ∧ (r < n ∨ r = 0)) ∧ Pl l i' := by
  unfold spec_l01Below.f
  by_cases c0 : n ≤ 0
  · simp only [if_pos c0]
    exact ⟨_, _, _, rfl, by omega, hi⟩
  · simp only [if_neg c0]
    by_cases c1 : n ≤ 256
    · obtain ⟨r, i', h', e, hr, hp⟩ := byte_ev l hl i h hi
      simp only [if_pos c1, e, Option.bind_some, if_neg (show ¬ n = 0 by omega)]
      refine ⟨_, _, _, rfl, ?_, hp⟩
      rw [Int.tmod_eq_emod_of_nonneg hr.1]
      have := Int.emod_nonneg r (show n ≠ 0 by omega)
      have := Int.emod_lt_of_pos r (show 0 < n by omega)
      omega
    · obtain ⟨r, i', h', e, hr, hp⟩ := byte_ev l hl i h hi
      obtain ⟨r2, i2, h2, e2, hr2, hp2⟩ := byte_ev l hl i' h' hp
      obtain ⟨r3, i3, h3, e3, hr3, hp3⟩ := byte_ev l hl i2 h2 hp2
      simp only [if_neg c1, e, e2, e3, Option.bind_some, if_neg (show ¬ n = 0 by omega)]
      refine ⟨_, _, _, rfl, ?_, hp3⟩
      rw [w64 (x := r * 65536) (by omega) (by omega), w64 (x := r2 * 256) (by omega) (by omega), w64 (x := r * 65536 + r2 * 256) (by omega) (by omega), w64 (x := r * 65536 + r2 * 256 + r3) (by omega) (by omega)]
      rw [Int.tmod_eq_emod_of_nonneg (by omega)]
      have := Int.emod_nonneg (r * 65536 + r2 * 256 + r3) (show n ≠ 0 by omega)
      have := Int.emod_lt_of_pos (r * 65536 + r2 * 256 + r3) (show 0 < n by omega)
      omega
/-- The same where n is above 0. -/
theorem below_pos (l : List Int) (hl : l.length ≤ 2000000) (i h : Int) (hi : Pl l i) (n : Int) (h0 : 0 < n) (hn : n ≤ 16777216) : ∃ r i' h', spec_l01Below.f l i h n = some (r, i', h') ∧ (0 ≤ r ∧ r < n) ∧ Pl l i' := by
  obtain ⟨r, i', h', e, hr, hp⟩ := below_ev l hl i h hi n hn
  exact ⟨r, i', h', e, by omega, hp⟩
theorem pl0 (l : List Int) : Pl l 0 := by unfold Pl; omega
/-- The last front, or what stands ahead. -/
def endF (last : Int) : List S49 → Int
  | [] => last
  | t :: ts => endF t.f1 ts
theorem okL_append (n : Int) (t : S49) : ∀ (ts : List S49) (last : Int), okL n last ts = true → endF last ts < t.f0 → t.f0 ≤ t.f1 → t.f1 < n → okL n last (ts ++ [t]) = true
  | [], last, _, h1, h2, h3 => by
    simp only [endF] at h1
    simp [okL, show ¬ t.f0 ≤ last by omega, show ¬ t.f1 < t.f0 by omega, show ¬ t.f1 ≥ n by omega]
  | x :: ts, last, h, h1, h2, h3 => by
    simp only [okL, List.cons_append] at h ⊢
    by_cases c1 : x.f0 ≤ last
    · simp [c1] at h
    · by_cases c2 : x.f1 < x.f0
      · simp [c1, c2] at h
      · by_cases c3 : x.f1 ≥ n
        · simp [c1, c2, c3] at h
        · rw [if_neg c1, if_neg c2, if_neg c3] at h ⊢
          exact okL_append n t ts x.f1 h h1 h2 h3
theorem endF_append (t : S49) : ∀ (ts : List S49) (last : Int), endF last (ts ++ [t]) = t.f1
  | [], _ => rfl
  | x :: ts, _ => endF_append t ts x.f1
theorem draw_trains_loop (l : List Int) (hl : l.length ≤ 2000000) (n : Int) (hn : 1 ≤ n ∧ n ≤ 100) (m : Nat) : ∀ (acc : List S49) (at_ : Int) (i h : Int), 4 - acc.length = m → acc.length ≤ 4 → okL n (-1) acc = true → endF (-1) acc < at_ → 0 ≤ at_ → at_ ≤ 1000 → Pl l i →
    ∃ ts i' h', Ev (fun k => spec_l05DrawTrains.l0 k n acc at_ l i h) (ts, i', h') ∧ ts.length ≤ 4 ∧ okL n (-1) ts = true ∧ Pl l i' := by
  induction m with
  | zero =>
    intro acc at_ i h h0 h1 h2 h3 h4 h5 hi
    refine ⟨acc, i, h, Ev.step (fun k => by rw [spec_l05DrawTrains.l0]) ?_, h1, h2, hi⟩
    by_cases c : at_ < n
    · simp only [if_pos c, if_neg (show ¬ (acc.length : Int) < 4 by omega)]
      exact ev_some
    · simp only [if_neg c]
      exact ev_some
  | succ m ih =>
    intro acc at_ i h h0 h1 h2 h3 h4 h5 hi
    by_cases c : at_ < n
    · obtain ⟨r, i1, e1, hb, hr, hp⟩ := below_pos l hl i h hi 3 (by omega) (by omega)
      obtain ⟨s, i2, e2, hb2, hs, hp2⟩ := below_pos l hl i1 e1 hp 4 (by omega) (by omega)
      by_cases c2 : at_ + r ≥ n
      · have hok := okL_append n ⟨at_, n - 1⟩ acc (-1) h2 h3 (by simp only; omega) (by simp only; omega)
        have hen := endF_append ⟨at_, n - 1⟩ acc (-1)
        obtain ⟨ts, i', h', hev, a1, a2, a3⟩ := ih (acc ++ [⟨at_, n - 1⟩]) (n - 1 + 1 + s) i2 e2 (by simp; omega) (by simp; omega) hok (by rw [hen]; simp only; omega) (by omega) (by omega) hp2
        refine ⟨ts, i', h', Ev.step (fun k => by rw [spec_l05DrawTrains.l0]) ?_, a1, a2, a3⟩
        simp only [if_pos c, if_pos (show (acc.length : Int) < 4 by omega), hb, Option.bind_some, w64 (x := at_ + r) (by omega) (by omega), if_pos c2, if_pos (show acc.length < 8796093022208 by omega), hb2, w64 (x := n - 1) (by omega) (by omega), w64 (x := n - 1 + 1) (by omega) (by omega), w64 (x := n - 1 + 1 + s) (by omega) (by omega)]
        exact hev
      · have hok := okL_append n ⟨at_, at_ + r⟩ acc (-1) h2 h3 (by simp only; omega) (by simp only; omega)
        have hen := endF_append ⟨at_, at_ + r⟩ acc (-1)
        obtain ⟨ts, i', h', hev, a1, a2, a3⟩ := ih (acc ++ [⟨at_, at_ + r⟩]) (at_ + r + 1 + s) i2 e2 (by simp; omega) (by simp; omega) hok (by rw [hen]; simp only; omega) (by omega) (by omega) hp2
        refine ⟨ts, i', h', Ev.step (fun k => by rw [spec_l05DrawTrains.l0]) ?_, a1, a2, a3⟩
        simp only [if_pos c, if_pos (show (acc.length : Int) < 4 by omega), hb, Option.bind_some, w64 (x := at_ + r) (by omega) (by omega), if_neg c2, if_pos (show acc.length < 8796093022208 by omega), hb2, w64 (x := at_ + r + 1) (by omega) (by omega), w64 (x := at_ + r + 1 + s) (by omega) (by omega)]
        exact hev
    · refine ⟨acc, i, h, Ev.step (fun k => by rw [spec_l05DrawTrains.l0]) ?_, h1, h2, hi⟩
      simp only [if_neg c]
      exact ev_some
theorem draw_moves_loop (l : List Int) (hl : l.length ≤ 2000000) (m : Nat) : ∀ (acc : List Int) (i h : Int), acc.length + m ≤ 1000 → Pl l i →
    ∃ ms i' h', Ev (fun k => spec_l05DrawMoves.l0 k acc (m : Int) l i h) (acc ++ ms, i', h') ∧ ms.length = m ∧ ∀ x ∈ ms, -1 ≤ x ∧ x ≤ 8 := by
  induction m with
  | zero =>
    intro acc i h h0 hi
    refine ⟨[], i, h, Ev.step (fun k => by rw [spec_l05DrawMoves.l0]) ?_, rfl, by simp⟩
    simp only [if_neg (show ¬ ((0 : Nat) : Int) > 0 by omega), List.append_nil]
    exact ev_some
  | succ m ih =>
    intro acc i h h0 hi
    obtain ⟨r, i1, e1, hb, hr, hp⟩ := below_pos l hl i h hi 9 (by omega) (by omega)
    obtain ⟨s, i2, e2, hb2, hs, hp2⟩ := below_pos l hl i1 e1 hp 20 (by omega) (by omega)
    have hd : Int.tdiv s 19 = s / 19 := Int.tdiv_eq_ediv_of_nonneg (by omega)
    obtain ⟨ms, i', h', hev, hlen', hall⟩ := ih (acc ++ [r - s / 19]) i2 e2 (by simp; omega) hp2
    refine ⟨(r - s / 19) :: ms, i', h', Ev.step (fun k => by rw [spec_l05DrawMoves.l0]) ?_, by simp [hlen'], ?_⟩
    · simp only [if_pos (show ((m + 1 : Nat) : Int) > 0 by omega), hb, hb2, Option.bind_some, if_pos (show acc.length < 17592186044416 by omega), hd, w64 (x := s / 19) (by omega) (by omega), w64 (x := r - s / 19) (by omega) (by omega)]
      rw [show ((m + 1 : Nat) : Int) - 1 = (m : Int) by omega, w64 (x := (m : Int)) (by omega) (by omega)]
      simpa using hev
    · intro x hx
      rcases List.mem_cons.1 hx with rfl | hx
      · omega
      · exact hall x hx
theorem size_eq (l : List Int) (hl : l.length ≤ 2000000) (n : Int) (hn : 2 ≤ n ∧ n ≤ 1000) : ∃ s, spec_l01Size.f l n = some s ∧ 2 ≤ s ∧ s ≤ n := by
  unfold spec_l01Size.f
  rw [w64 (x := (l.length : Int) / 16) (by omega) (by omega), w64 (x := 2 + (l.length : Int) / 16) (by omega) (by omega)]
  by_cases c : 2 + (l.length : Int) / 16 > n
  · simp only [if_pos c]; exact ⟨_, rfl, by omega, by omega⟩
  · simp only [if_neg c]; exact ⟨_, rfl, by omega, by omega⟩
theorem draw_right_ev (l : List Int) (hl : l.length ≤ 2000000) : ∃ n ts ms, Ev (fun k => spec_DrawRightTrains.f k l) (n, ts, ms) ∧ okT n ts = true ∧ ms.length ≤ 100 ∧ ∀ x ∈ ms, -1 ≤ x ∧ x ≤ 8 := by
  unfold spec_DrawRightTrains.f
  obtain ⟨h0, e0⟩ := new_ev l hl
  obtain ⟨r, i1, h1, e1, hr, hp1⟩ := below_pos l hl 0 h0 (pl0 l) 14 (by omega) (by omega)
  obtain ⟨a, i2, h2, e2, ha, hp2⟩ := below_pos l hl i1 h1 hp1 3 (by omega) (by omega)
  obtain ⟨ts, i3, h3, e3, ht1, ht2, hp3⟩ := draw_trains_loop l hl (2 + r) (by omega) 4 [] a i2 h2 rfl (by simp) rfl (by simp only [endF]; omega) ha.1 (by omega) hp2
  obtain ⟨s, es, hs1, hs2⟩ := size_eq l hl 20 (by omega)
  obtain ⟨c, i4, h4, e4, hc, hp4⟩ := below_pos l hl i3 h3 hp3 (4 + 2 * s) (by omega) (by omega)
  obtain ⟨cn, rfl⟩ : ∃ cn : Nat, c = cn := ⟨c.toNat, by omega⟩
  obtain ⟨ms, i5, h5, e5, hm1, hm2⟩ := draw_moves_loop l hl cn [] i4 h4 (by simp; omega) hp4
  refine ⟨2 + r, ts, ms, ?_, ?_, by omega, hm2⟩
  · refine Ev.bind e0 ?_
    simp only [e1, Option.bind_some, w64 (x := 2 + r) (by omega) (by omega)]
    refine Ev.bind (a := (ts, i3, h3)) ?_ ?_
    · unfold spec_l05DrawTrains.f
      simp only [e2, Option.bind_some]
      exact e3
    · refine Ev.bind (a := (ms, i5, h5)) ?_ ?_
      · unfold spec_l05DrawMoves.f
        simp only [es, Option.bind_some, w64 (x := 2 * s) (by omega) (by omega), w64 (x := 4 + 2 * s) (by omega) (by omega), e4]
        simpa using e5
      · exact ev_some
  · unfold okT
    simp only [Bool.and_eq_true, decide_eq_true_eq]
    exact ⟨⟨by omega, by omega⟩, ht2⟩
theorem impl_taken_in (n : Nat) (ts : List S49) (hn : n ≤ 100) (j : Nat) (r0 r1 : Int) (h1 : r1 < n) (R : List Bool) (d : Nat) : ∀ (cur : Int) (f : Nat → Bool), (r1 + 1 - cur).toNat = d → 0 ≤ cur → cur ≤ 100 →
    Ev (fun k => impl_takenBy.l0 k ((List.range n).map (fun b : Nat => f b || decide (cur ≤ (b : Int) ∧ (b : Int) ≤ r1))) ts (ts.length : Int) (wrap64 ((j : Int) + 1))) R →
    Ev (fun k => impl_takenBy.l1 k ((List.range n).map f) cur ts (ts.length : Int) (j : Int) r0 r1) R := by
  induction d with
  | zero =>
    intro cur f hd h0 h2 hR
    refine Ev.step (fun k => by rw [impl_takenBy.l1]) ?_
    simp only [if_neg (show ¬ cur ≤ r1 by omega)]
    have e : (List.range n).map (fun b : Nat => f b || decide (cur ≤ (b : Int) ∧ (b : Int) ≤ r1)) = (List.range n).map f := by
      refine List.map_congr_left fun b _ => ?_
      rw [decide_eq_false (by omega), Bool.or_false]
    rw [e] at hR
    exact hR
  | succ d ih =>
    intro cur f hd h0 h2 hR
    refine Ev.step (fun k => by rw [impl_takenBy.l1]) ?_
    simp only [if_pos (show cur ≤ r1 by omega), if_pos h0, List.length_map, List.length_range, if_pos (show cur < (n : Int) by omega)]
    rw [w64 (x := cur + 1) (by omega) (by omega), range_set n f cur.toNat (by omega)]
    refine ih (cur + 1) _ (by omega) (by omega) (by omega) ?_
    have e : (List.range n).map (fun b : Nat => (f b || decide (b = cur.toNat)) || decide (cur + 1 ≤ (b : Int) ∧ (b : Int) ≤ r1)) = (List.range n).map (fun b : Nat => f b || decide (cur ≤ (b : Int) ∧ (b : Int) ≤ r1)) := by
      refine List.map_congr_left fun b _ => ?_
      rw [Bool.or_assoc]
      congr 1
      rw [Bool.eq_iff_iff]
      simp only [Bool.or_eq_true, decide_eq_true_eq]
      omega
    rw [e]
    exact hR
theorem impl_taken_out (n : Nat) (ts : List S49) (hn : n ≤ 100) (hl : ts.length ≤ 2000000) : ∀ (rest : List S49) (j : Nat) (f : Nat → Bool), ts.drop j = rest → (∀ t ∈ rest, 0 ≤ t.f0 ∧ t.f0 ≤ t.f1 ∧ t.f1 < n) →
    Ev (fun k => impl_takenBy.l0 k ((List.range n).map f) ts (ts.length : Int) (j : Int)) ((List.range n).map (fun b : Nat => f b || cov rest (b : Int))) := by
  intro rest
  induction rest with
  | nil =>
    intro j f h _
    have := drop_nil h
    refine Ev.step (fun k => by rw [impl_takenBy.l0]) ?_
    simp only [if_neg (show ¬ (j : Int) < (ts.length : Int) by omega), cov, List.any_nil, Bool.or_false]
    exact ev_some
  | cons t rest ih =>
    intro j f h hb
    obtain ⟨h1, h2, h3⟩ := drop_cons h
    have ht := hb t (by simp)
    refine Ev.step (fun k => by rw [impl_takenBy.l0]) ?_
    simp only [if_pos (show (j : Int) < (ts.length : Int) by omega), if_pos (show 0 ≤ (j : Int) by omega), rd_T49, Int.toNat_natCast, h2]
    refine impl_taken_in n ts hn j t.f0 t.f1 ht.2.2 _ _ t.f0 f rfl ht.1 (by omega) ?_
    rw [nat_w (by omega)]
    have := ih (j + 1) (fun b : Nat => f b || decide (t.f0 ≤ (b : Int) ∧ (b : Int) ≤ t.f1)) h3 (fun x hx => hb x (by simp [hx]))
    simpa [cov, Bool.or_assoc] using this
theorem impl_taken0_ev (n : Int) (ts : List S49) (h : okT n ts = true) : Ev (fun k => impl_takenBy.f k n ts) (takenL n ts) := by
  obtain ⟨h1, h2, h3⟩ := okT_spec h
  have hm := okT_mem h
  unfold impl_takenBy.f
  simp only [if_pos (show 0 ≤ n by omega), if_pos (show n.toNat ≤ 281474976710656 by omega)]
  have h4 := impl_taken_out n.toNat ts (by omega) (by omega) ts 0 (fun _ => false) (by simp) (fun t ht => by have := hm t ht; omega)
  have e : (List.range n.toNat).map (fun _ => false) = List.replicate n.toNat false := by
    apply List.ext_getElem?
    intro i
    by_cases hi : i < n.toNat <;> simp [hi, List.getElem?_replicate]
  rw [e] at h4
  simpa [takenL] using h4
theorem impl_taken_ev (n : Int) (ts : List S49) (hl : ts.length ≤ 2000000) : Ev (fun k => impl_TakenBy.f k n ts) (takenR n ts) := by
  unfold impl_TakenBy.f takenR
  refine Ev.bind (impl_ok_ev n ts hl) ?_
  by_cases h : okT n ts = true
  · simp only [if_pos h]
    exact Ev.bind (impl_taken0_ev n ts h) ev_some
  · simp only [if_neg h]
    exact ev_some
/-- How many are free from the head on. -/
def freeN : List Bool → Nat
  | [] => 0
  | true :: _ => 0
  | false :: xs => freeN xs + 1
theorem freeN_le : ∀ xs : List Bool, freeN xs ≤ xs.length
  | [] => by simp [freeN]
  | true :: xs => by simp [freeN]
  | false :: xs => by have := freeN_le xs; simp [freeN]; omega
/-- The aspect of the signal ahead of these blocks. -/
def asp (beyond : Int) : List Bool → Int
  | [] => beyond
  | true :: _ => 0
  | false :: xs => if asp beyond xs + 1 > 3 then 3 else asp beyond xs + 1
def aspL (beyond : Int) : List Bool → List Int
  | [] => []
  | b :: xs => asp beyond (b :: xs) :: aspL beyond xs
theorem aspL_length (beyond : Int) : ∀ xs, (aspL beyond xs).length = xs.length
  | [] => rfl
  | b :: xs => by simp [aspL, aspL_length beyond xs]
theorem asp_free (beyond : Int) (h0 : 0 ≤ beyond) (h3 : beyond ≤ 3) : ∀ xs : List Bool, asp beyond xs = if freeN xs = xs.length then (if (freeN xs : Int) + beyond > 3 then 3 else (freeN xs : Int) + beyond) else (if (freeN xs : Int) > 3 then 3 else (freeN xs : Int))
  | [] => by simp [asp, freeN]; omega
  | true :: xs => by simp [asp, freeN]
  | false :: xs => by
    have ih := asp_free beyond h0 h3 xs
    simp only [asp, freeN, List.length_cons]
    rw [ih]
    by_cases h : freeN xs = xs.length
    · simp only [if_pos h, if_pos (show freeN xs + 1 = xs.length + 1 by omega)]
      split <;> split <;> omega
    · simp only [if_neg h, if_neg (show ¬ freeN xs + 1 = xs.length + 1 by omega)]
      split <;> split <;> omega
theorem asp_bd (beyond : Int) (h0 : 0 ≤ beyond) (h3 : beyond ≤ 3) (xs : List Bool) : 0 ≤ asp beyond xs ∧ asp beyond xs ≤ 3 := by
  rw [asp_free beyond h0 h3]
  split <;> split <;> omega
/-- What Aspects answers. -/
def aspR (xs : List Bool) (b : Int) : List Int := if xs.length ≤ 100 ∧ 0 ≤ b ∧ b ≤ 3 then aspL b xs else []
theorem aspL_drop (b : Int) : ∀ (xs : List Bool) (j : Nat), (aspL b xs).drop j = aspL b (xs.drop j)
  | [], j => by simp [aspL]
  | x :: xs, 0 => by simp
  | x :: xs, j + 1 => by simp [aspL, aspL_drop b xs j]
theorem impl_asp_loop (xs : List Bool) (hn : xs.length ≤ 100) (b : Int) (h0 : 0 ≤ b) (h3 : b ≤ 3) : ∀ (j : Nat) (acc : List Int), j ≤ xs.length → acc.length = xs.length → acc.drop j = aspL b (xs.drop j) → Ev (fun k => impl_aspects.l0 k xs (asp b (xs.drop j)) acc ((j : Int) - 1)) (aspL b xs) := by
  intro j
  induction j with
  | zero =>
    intro acc hj hl hd
    refine Ev.step (fun k => by rw [impl_aspects.l0]) ?_
    simp only [if_neg (show ¬ (((0 : Nat) : Int) - 1 ≥ 0) by omega)]
    have e : acc = aspL b xs := by simpa using hd
    rw [e]
    exact ev_some
  | succ j ih =>
    intro acc hj hl hd
    refine Ev.step (fun k => by rw [impl_aspects.l0]) ?_
    rw [show (((j + 1 : Nat) : Int) - 1) = (j : Int) by omega, w64 (x := (j : Int) - 1) (by omega) (by omega)]
    have hx : xs.drop j = xs[j]'(by omega) :: xs.drop (j + 1) := List.drop_eq_getElem_cons (by omega)
    have hr : rdOf false xs (j : Int) = xs[j]'(by omega) := by
      unfold rdOf
      rw [Int.toNat_natCast, List.getD_eq_getElem?_getD, List.getElem?_eq_getElem (by omega)]; rfl
    have hbd := asp_bd b h0 h3 (xs.drop (j + 1))
    have hset : ∀ v, asp b (xs.drop j) = v → (acc.set j v).drop j = aspL b (xs.drop j) := by
      intro v hv
      rw [hx, aspL, ← hx, ← hd, hv, List.drop_eq_getElem_cons (show j < (acc.set j v).length by simp; omega), List.getElem_set_self, List.drop_set_of_lt (by omega)]
    simp only [if_pos (show (j : Int) ≥ 0 by omega), if_pos (show 0 ≤ (j : Int) by omega), if_pos (show (j : Int) < (xs.length : Int) by omega), if_pos (show (j : Int) < (acc.length : Int) by omega), hr, Int.toNat_natCast]
    cases hb : xs[j]'(by omega) with
    | true =>
      simp only [if_true]
      have ha : asp b (xs.drop j) = 0 := by rw [hx, hb]; rfl
      have h4 := ih (acc.set j 0) (by omega) (by simpa using hl) (hset 0 ha)
      rw [ha] at h4
      exact h4
    | false =>
      simp only [Bool.false_eq_true, if_false]
      rw [w64 (x := asp b (xs.drop (j + 1)) + 1) (by omega) (by omega)]
      have ha : asp b (xs.drop j) = mn (asp b (xs.drop (j + 1)) + 1) 3 := by
        rw [hx, hb]
        simp only [asp]
        unfold mn
        split <;> first | rfl | omega
      have h4 := ih (acc.set j _) (by omega) (by simpa using hl) (hset _ ha)
      rw [ha] at h4
      exact h4
theorem impl_aspects0_ev (xs : List Bool) (hn : xs.length ≤ 100) (b : Int) (hb : 0 ≤ b ∧ b ≤ 3) : Ev (fun k => impl_aspects.f k xs b) (aspL b xs) := by
  unfold impl_aspects.f
  simp only [if_pos (show 0 ≤ (xs.length : Int) by omega), if_pos (show ((xs.length : Int)).toNat ≤ 35184372088832 by omega)]
  rw [w64 (x := (xs.length : Int) - 1) (by omega) (by omega)]
  have h := impl_asp_loop xs hn b hb.1 hb.2 xs.length (List.replicate xs.length 0) (by omega) (by simp) (by simp [aspL])
  simpa [asp] using h
theorem impl_aspects_ev (xs : List Bool) (hn : xs.length ≤ 2000000) (b : Int) : Ev (fun k => impl_Aspects.f k xs b) (aspR xs b) := by
  unfold impl_Aspects.f aspR
  by_cases h : xs.length ≤ 100
  · simp only [if_neg (show ¬ (xs.length : Int) > 100 by omega), impl_in, Option.bind_some]
    by_cases hb : 0 ≤ b ∧ b ≤ 3
    · simp only [hb, h, and_self, decide_true, if_true]
      exact Ev.bind (impl_aspects0_ev xs h b hb) ev_some
    · simpa [hb] using ev_some
  · simp only [if_pos (show (xs.length : Int) > 100 by omega), h, false_and, if_false]
    exact ev_some
theorem aspR_length (xs : List Bool) (b : Int) : (aspR xs b).length ≤ xs.length := by
  unfold aspR
  split
  · rw [aspL_length]; omega
  · simp
theorem aspL_at (b : Int) : ∀ (xs : List Bool) (j : Nat), j < xs.length → (aspL b xs).getD j 0 = asp b (xs.drop j)
  | [], j, h => by simp at h
  | x :: xs, 0, _ => rfl
  | x :: xs, j + 1, h => by simpa [aspL] using aspL_at b xs j (by simpa using h)
theorem asp_red (b : Int) (h0 : 0 ≤ b) (h3 : b ≤ 3) : ∀ (xs : List Bool), (asp b xs = 0) ↔ (match xs with | [] => b = 0 | x :: _ => x = true)
  | [] => by simp [asp]
  | true :: xs => by simp [asp]
  | false :: xs => by
    have := asp_bd b h0 h3 xs
    simp only [asp]
    split <;> simp <;> omega

/-- What Forward answers for a right list of trains, a place in it and an aspect beyond. -/
def fwd1 (n : Int) (ts : List S49) (j : Nat) (b : Int) : List S49 × Bool :=
  if (ts.getD j z49).f1 + 1 = n then (if b = 0 then ([], false) else (ts.take j ++ ts.drop (j + 1), true))
  else if cov ts ((ts.getD j z49).f1 + 1) = true then ([], false) else (ts.set j ⟨(ts.getD j z49).f0, (ts.getD j z49).f1 + 1⟩, true)
def forwardR (n : Int) (ts : List S49) (k b : Int) : List S49 × Bool := if okT n ts = true ∧ (0 ≤ k ∧ k < (ts.length : Int)) ∧ (0 ≤ b ∧ b ≤ 3) then fwd1 n ts k.toNat b else ([], false)
theorem takenL_at (n : Int) (ts : List S49) (p : Nat) (h : (p : Int) < n) : (takenL n ts).getD p false = cov ts (p : Int) := by
  unfold takenL
  rw [List.getD_eq_getElem?_getD, List.getElem?_map, List.getElem?_range (by omega)]; rfl
theorem impl_goOn_ev (n : Int) (ts : List S49) (h : okT n ts = true) (j : Nat) (hj : j < ts.length) (b : Int) : Ev (fun k => impl_goOn.f k n ts (j : Int) b) (fwd1 n ts j b) := by
  have hm := okT_mem h _ (getD_mem hj)
  have hs := okT_spec h
  unfold impl_goOn.f fwd1
  simp only [if_pos (show 0 ≤ (j : Int) by omega), if_pos (show (j : Int) < (ts.length : Int) by omega), rdS_at, Int.toNat_natCast, Option.bind_some, List.nil_append, List.length_nil, w64 (x := (ts.getD j z49).f1 + 1) (by omega) (by omega), nat_w (show j ≤ 9223372036854775806 by omega)]
  by_cases c1 : (ts.getD j z49).f1 + 1 = n
  · simp only [if_pos c1]
    by_cases c2 : b = 0
    · simp only [if_pos c2]; exact ev_some
    · simp only [if_neg c2, if_pos (show (j : Int) ≤ (ts.length : Int) by omega), if_pos (show 0 + (ts.take j).length < 8796093022208 by simp; omega), if_pos (show 0 ≤ ((j + 1 : Nat) : Int) by omega), if_pos (show ((j + 1 : Nat) : Int) ≤ (ts.length : Int) by omega), if_pos (show (ts.take j).length + (ts.drop (j + 1)).length < 8796093022208 by simp; omega)]
      exact ev_some
  · simp only [if_neg c1]
    refine Ev.bind (impl_taken0_ev n ts h) ?_
    have hlen := takenL_length n ts
    simp only [if_pos (show 0 ≤ (ts.getD j z49).f1 + 1 by omega), if_pos (show (ts.getD j z49).f1 + 1 < ((takenL n ts).length : Int) by omega)]
    have ht := takenL_at n ts ((ts.getD j z49).f1 + 1).toNat (by omega)
    rw [show ((((ts.getD j z49).f1 + 1).toNat : Nat) : Int) = (ts.getD j z49).f1 + 1 by omega] at ht
    have hrd : rdOf false (takenL n ts) ((ts.getD j z49).f1 + 1) = cov ts ((ts.getD j z49).f1 + 1) := ht
    simp only [hrd]
    by_cases c2 : cov ts ((ts.getD j z49).f1 + 1) = true
    · simp only [if_pos c2]; exact ev_some
    · simp only [if_neg c2, if_pos (show 0 + ts.length < 8796093022208 by omega)]
      exact ev_some
theorem impl_forward_ev (n : Int) (ts : List S49) (k0 b : Int) (hl : ts.length ≤ 2000000) : Ev (fun k => impl_Forward.f k n ts k0 b) (forwardR n ts k0 b) := by
  unfold impl_Forward.f forwardR
  refine Ev.bind (impl_ok_ev n ts hl) ?_
  by_cases h : okT n ts = true
  · simp only [h, if_true, true_and, impl_in, Option.bind_some, decide_eq_true_eq]
    rw [w64 (x := (ts.length : Int) - 1) (by omega) (by omega)]
    by_cases hk : 0 ≤ k0 ∧ k0 < (ts.length : Int)
    · obtain ⟨j, rfl⟩ : ∃ j : Nat, k0 = j := ⟨k0.toNat, by omega⟩
      simp only [if_pos (show 0 ≤ (j : Int) ∧ (j : Int) ≤ (ts.length : Int) - 1 by omega)]
      simp only [hk, true_and, and_self, Int.toNat_natCast]
      by_cases hb : 0 ≤ b ∧ b ≤ 3
      · simp only [hb, and_self, if_true]
        exact Ev.bind (impl_goOn_ev n ts h j (by omega) b) ev_some
      · simp only [if_neg hb]
        exact ev_some
    · simp only [if_neg (show ¬ ((0 ≤ k0 ∧ k0 < (ts.length : Int)) ∧ 0 ≤ b ∧ b ≤ 3) from fun x => hk x.1), if_neg (show ¬ (0 ≤ k0 ∧ k0 ≤ (ts.length : Int) - 1) by omega)]
      exact ev_some
  · simp only [if_neg h, if_neg (show ¬ (okT n ts = true ∧ (0 ≤ k0 ∧ k0 < (ts.length : Int)) ∧ 0 ≤ b ∧ b ≤ 3) from fun x => h x.1)]
    exact ev_some
/-- What Shrink answers for a right list of trains and a place in it. -/
def shr1 (ts : List S49) (j : Nat) : List S49 × Bool := if (ts.getD j z49).f0 = (ts.getD j z49).f1 then ([], false) else (ts.set j ⟨(ts.getD j z49).f0 + 1, (ts.getD j z49).f1⟩, true)
def shrinkR (n : Int) (ts : List S49) (k : Int) : List S49 × Bool := if okT n ts = true ∧ 0 ≤ k ∧ k < (ts.length : Int) then shr1 ts k.toNat else ([], false)
theorem impl_draw_ev (n : Int) (ts : List S49) (h : okT n ts = true) (j : Nat) (hj : j < ts.length) : impl_drawUp.f ts (j : Int) = some (shr1 ts j) := by
  have hm := okT_mem h _ (getD_mem hj)
  have hs := okT_spec h
  unfold impl_drawUp.f shr1
  simp only [if_pos (show 0 ≤ (j : Int) by omega), if_pos (show (j : Int) < (ts.length : Int) by omega), rdS_at, Int.toNat_natCast, Option.bind_some, List.nil_append, List.length_nil, if_pos (show 0 + ts.length < 8796093022208 by omega)]
  split
  · rfl
  · rw [w64 (by omega) (by omega)]
theorem impl_shrink_ev (n : Int) (ts : List S49) (k0 : Int) (hl : ts.length ≤ 2000000) : Ev (fun k => impl_Shrink.f k n ts k0) (shrinkR n ts k0) := by
  unfold impl_Shrink.f shrinkR
  refine Ev.bind (impl_ok_ev n ts hl) ?_
  by_cases h : okT n ts = true
  · simp only [h, if_true, true_and, impl_in, Option.bind_some, decide_eq_true_eq]
    rw [w64 (x := (ts.length : Int) - 1) (by omega) (by omega)]
    by_cases hk : 0 ≤ k0 ∧ k0 < (ts.length : Int)
    · obtain ⟨j, rfl⟩ : ∃ j : Nat, k0 = j := ⟨k0.toNat, by omega⟩
      simp only [if_pos (show 0 ≤ (j : Int) ∧ (j : Int) ≤ (ts.length : Int) - 1 by omega)]
      simp only [hk, and_self, if_true, Int.toNat_natCast]
      rw [impl_draw_ev n ts h j (by omega)]
      exact ev_some
    · simp only [if_neg hk, if_neg (show ¬ (0 ≤ k0 ∧ k0 ≤ (ts.length : Int) - 1) by omega)]
      exact ev_some
  · simp only [if_neg h, if_neg (show ¬ (okT n ts = true ∧ 0 ≤ k0 ∧ k0 < (ts.length : Int)) from fun x => h x.1)]
    exact ev_some
/-- A train that goes on onto a free block leaves the trains in order. -/
theorem okL_set (n : Int) : ∀ (ts : List S49) (last : Int) (j : Nat), okL n last ts = true → j < ts.length → (ts.getD j z49).f1 + 1 < n → cov ts ((ts.getD j z49).f1 + 1) = false → okL n last (ts.set j ⟨(ts.getD j z49).f0, (ts.getD j z49).f1 + 1⟩) = true
  | [], last, j, _, h, _, _ => by simp at h
  | x :: ts, last, 0, h, _, hn, hc => by
    simp only [List.getD_cons_zero, List.set_cons_zero] at *
    simp only [okL] at h ⊢
    by_cases c1 : x.f0 ≤ last
    · simp [c1] at h
    · by_cases c2 : x.f1 < x.f0
      · simp [c1, c2] at h
      · by_cases c3 : x.f1 ≥ n
        · simp [c1, c2, c3] at h
        · rw [if_neg c1, if_neg c2, if_neg c3] at h
          rw [if_neg c1, if_neg (by omega), if_neg (by omega)]
          cases ts with
          | nil => rfl
          | cons u us =>
            simp only [okL] at h ⊢
            by_cases d1 : u.f0 ≤ x.f1
            · simp [d1] at h
            · by_cases d2 : u.f1 < u.f0
              · simp [d1, d2] at h
              · rw [if_neg d1, if_neg d2] at h
                have hnc : ¬ (u.f0 ≤ x.f1 + 1 ∧ x.f1 + 1 ≤ u.f1) := by
                  intro hu
                  have : cov (x :: u :: us) (x.f1 + 1) = true := by simp [cov, hu]
                  rw [this] at hc
                  cases hc
                rw [if_neg (by omega), if_neg d2]
                exact h
  | x :: ts, last, j + 1, h, hj, hn, hc => by
    simp only [List.getD_cons_succ, List.set_cons_succ] at *
    simp only [okL] at h ⊢
    by_cases c1 : x.f0 ≤ last
    · simp [c1] at h
    · by_cases c2 : x.f1 < x.f0
      · simp [c1, c2] at h
      · by_cases c3 : x.f1 ≥ n
        · simp [c1, c2, c3] at h
        · rw [if_neg c1, if_neg c2, if_neg c3] at h ⊢
          refine okL_set n ts x.f1 j h (by simpa using hj) hn ?_
          simp only [cov, List.any_cons, Bool.or_eq_false_iff] at hc
          exact hc.2
/-- .. one whose rear is drawn up, too. -/
theorem okL_shrink (n : Int) : ∀ (ts : List S49) (last : Int) (j : Nat), okL n last ts = true → (ts.getD j z49).f0 < (ts.getD j z49).f1 → okL n last (ts.set j ⟨(ts.getD j z49).f0 + 1, (ts.getD j z49).f1⟩) = true
  | [], last, j, h, _ => by simpa using h
  | x :: ts, last, 0, h, hlt => by
    simp only [List.getD_cons_zero, List.set_cons_zero] at *
    simp only [okL] at h ⊢
    by_cases c1 : x.f0 ≤ last
    · simp [c1] at h
    · by_cases c2 : x.f1 < x.f0
      · simp [c1, c2] at h
      · by_cases c3 : x.f1 ≥ n
        · simp [c1, c2, c3] at h
        · rw [if_neg c1, if_neg c2, if_neg c3] at h
          rw [if_neg (by omega), if_neg (by omega), if_neg c3]
          exact h
  | x :: ts, last, j + 1, h, hlt => by
    simp only [List.getD_cons_succ, List.set_cons_succ] at *
    simp only [okL] at h ⊢
    by_cases c1 : x.f0 ≤ last
    · simp [c1] at h
    · by_cases c2 : x.f1 < x.f0
      · simp [c1, c2] at h
      · by_cases c3 : x.f1 ≥ n
        · simp [c1, c2, c3] at h
        · rw [if_neg c1, if_neg c2, if_neg c3] at h ⊢
          exact okL_shrink n ts x.f1 j h hlt
theorem okT_of {n : Int} {ts ts' : List S49} (h : okT n ts = true) (hl : ts'.length ≤ ts.length) (h' : okL n (-1) ts' = true) : okT n ts' = true := by
  have hs := okT_spec h
  unfold okT
  simp only [Bool.and_eq_true, decide_eq_true_eq]
  exact ⟨⟨hs.1, by omega⟩, h'⟩
theorem set_getD {ts : List S49} {j : Nat} (h : j < ts.length) (x : S49) : (ts.set j x).getD j z49 = x := by
  rw [List.getD_eq_getElem?_getD, List.getElem?_set_self h]; rfl
theorem signal_loop (n : Int) (ts : List S49) (hok : okT n ts = true) (m : Nat) : ∀ j : Nat, ts.length - j = m → j ≤ ts.length → Ev (fun k => laws_FnSignal.l0 k n ts (aspL 0 (takenL n ts)) (j : Int)) true := by
  have hs := okT_spec hok
  have hlen := takenL_length n ts
  have hal := aspL_length 0 (takenL n ts)
  induction m with
  | zero =>
    intro j h0 h1
    refine Ev.step (fun k => by rw [laws_FnSignal.l0]) ?_
    simp only [if_neg (show ¬ (j : Int) < (ts.length : Int) by omega), show ((((aspL 0 (takenL n ts)).length : Int) == n) = true) from beq_iff_eq.mpr (by omega)]
    exact ev_some
  | succ m ih =>
    intro j h0 h1
    have hj : j < ts.length := by omega
    have hgo := ih (j + 1) (by omega) (by omega)
    have hm := okT_mem hok _ (getD_mem hj)
    refine Ev.step (fun k => by rw [laws_FnSignal.l0]) ?_
    simp only [if_pos (show (j : Int) < (ts.length : Int) by omega), if_pos (show 0 ≤ (j : Int) by omega), rdS_at, nat_w (show j ≤ 9223372036854775806 by omega)]
    refine Ev.bind (impl_forward_ev n ts (j : Int) 0 (by omega)) ?_
    have hf : forwardR n ts (j : Int) 0 = fwd1 n ts j 0 := by
      unfold forwardR
      rw [if_pos ⟨hok, by omega, by omega⟩, Int.toNat_natCast]
    rw [hf]
    simp only [w64 (x := (ts.getD j z49).f1 + 1) (by omega) (by omega)]
    by_cases c1 : (ts.getD j z49).f1 + 1 = n
    · have e : fwd1 n ts j 0 = ([], false) := by unfold fwd1; rw [if_pos c1, if_pos rfl]
      simp only [e, if_neg (show ¬ (ts.getD j z49).f1 + 1 < n by omega), bne_self_eq_false, Bool.false_eq_true, if_false]
      exact hgo
    · obtain ⟨p, hp⟩ : ∃ p : Nat, (ts.getD j z49).f1 + 1 = p := ⟨((ts.getD j z49).f1 + 1).toNat, by omega⟩
      have hpl : p < (takenL n ts).length := by omega
      have hrd : rd (aspL 0 (takenL n ts)) (p : Int) = asp 0 ((takenL n ts).drop p) := by rw [rdI_at, aspL_at 0 _ p hpl]
      have hd : (takenL n ts).drop p = (takenL n ts)[p]'hpl :: (takenL n ts).drop (p + 1) := List.drop_eq_getElem_cons hpl
      have hr := asp_red 0 (by omega) (by omega) ((takenL n ts).drop p)
      rw [hd] at hr
      simp only at hr
      rw [← hd] at hr
      have hc : (takenL n ts)[p]'hpl = cov ts (p : Int) := by
        rw [← takenL_at n ts p (by omega), List.getD_eq_getElem?_getD, List.getElem?_eq_getElem hpl]; rfl
      rw [hc] at hr
      simp only [hp, if_pos (show (p : Int) < n by omega), if_pos (show 0 ≤ (p : Int) by omega), if_pos (show (p : Int) < ((aspL 0 (takenL n ts)).length : Int) by omega), hrd]
      by_cases c2 : cov ts (p : Int) = true
      · have e : fwd1 n ts j 0 = ([], false) := by unfold fwd1; rw [if_neg c1, hp, if_pos c2]
        have e2 : (asp 0 ((takenL n ts).drop p) != 0) = false := by rw [hr.2 c2]; rfl
        simp only [e, e2, bne_self_eq_false, Bool.false_eq_true, if_false]
        exact hgo
      · have e : fwd1 n ts j 0 = (ts.set j ⟨(ts.getD j z49).f0, (p : Int)⟩, true) := by unfold fwd1; rw [if_neg c1, hp, if_neg c2]
        have e2 : (asp 0 ((takenL n ts).drop p) != 0) = true := by
          rw [bne_iff_ne]; exact fun x => c2 (hr.1 x)
        have hset := okL_set n ts (-1) j hs.2.2 hj (by omega) (by rw [hp]; simpa using c2)
        rw [hp] at hset
        generalize hN : ts.set j ⟨(ts.getD j z49).f0, (p : Int)⟩ = N at *
        have hNl : N.length = ts.length := by rw [← hN]; simp
        have hNg : N.getD j z49 = ⟨(ts.getD j z49).f0, (p : Int)⟩ := by rw [← hN]; exact set_getD hj _
        have hNok : okT n N = true := okT_of hok (by omega) hset
        simp only [e, e2, bne_self_eq_false, Bool.false_eq_true, if_false, if_true, if_pos (show (N.length : Int) = (ts.length : Int) by omega), if_pos (show 0 ≤ (j : Int) by omega), if_pos (show (j : Int) < (N.length : Int) by omega), if_pos (show (j : Int) < (ts.length : Int) by omega), rdS_at, hNg, w64 (x := (ts.getD j z49).f1 + 1) (by omega) (by omega), if_pos hp.symm]
        refine Ev.bind (impl_ok_ev n N (by omega)) ?_
        simp only [hNok, if_true]
        refine Ev.bind (impl_shrink_ev n N (j : Int) (by omega)) ?_
        have hsh : shrinkR n N (j : Int) = (N.set j ⟨(ts.getD j z49).f0 + 1, (p : Int)⟩, true) := by
          unfold shrinkR shr1
          rw [if_pos ⟨hNok, by omega, by omega⟩, Int.toNat_natCast, hNg]
          simp only
          rw [if_neg (by omega)]
        have hBg : (N.set j ⟨(ts.getD j z49).f0 + 1, (p : Int)⟩).getD j z49 = ⟨(ts.getD j z49).f0 + 1, (p : Int)⟩ := set_getD (by omega) _
        simp only [hsh, if_true, List.length_set, if_pos (show 0 ≤ (j : Int) by omega), if_pos (show (j : Int) < (N.length : Int) by omega), if_pos (show (j : Int) < (ts.length : Int) by omega), rdS_at, hBg, w64 (x := (ts.getD j z49).f0 + 1) (by omega) (by omega), w64 (x := (ts.getD j z49).f1 + 1) (by omega) (by omega), hp]
        exact hgo
theorem FnSignal : laws_FnSignal.PureR := by
  intro l h1
  refine Ev.rounds ?_
  unfold laws_FnSignal.f laws_big.f
  simp only [Option.bind_some, decide_eq_true_eq]
  by_cases h : (l.length : Int) > 1048576
  · simp only [if_pos h]; exact ev_some
  · simp only [if_neg h]
    have hl : l.length ≤ 2000000 := by omega
    obtain ⟨n, ts, ms, hd, hok, _, _⟩ := draw_right_ev l hl
    have hs := okT_spec hok
    refine Ev.bind hd ?_
    dsimp only
    have htr : takenR n ts = takenL n ts := by unfold takenR; rw [if_pos hok]
    have hlen := takenL_length n ts
    refine Ev.bind (impl_taken_ev n ts (by omega)) ?_
    rw [htr]
    refine Ev.bind (impl_aspects_ev _ (by omega) 0) ?_
    have har : aspR (takenL n ts) 0 = aspL 0 (takenL n ts) := by unfold aspR; rw [if_pos ⟨by omega, by omega, by omega⟩]
    have hal := aspL_length 0 (takenL n ts)
    rw [har]
    simp only [if_pos (show ((aspL 0 (takenL n ts)).length : Int) = n by omega)]
    exact signal_loop n ts hok _ 0 rfl (by omega)

end Go.Proofs.Ytcceefojngmpjaa.Pure
