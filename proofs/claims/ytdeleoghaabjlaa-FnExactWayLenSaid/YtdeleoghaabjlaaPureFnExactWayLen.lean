/- The program's WayLen returns what the reference's returns, for all nets, nodes and ways. -/
import Derived.Test.YtdeleoghaabjlaaRowFnExactWayLen
namespace Go.Proofs.Ytdeleoghaabjlaa.Pure
open Go.RowKit Go.Proofs.Ytdeleoghaabjlaa.PFnExactWayLen Go.Proofs.YtdeleoghaabjlaaW.PrintWords Go.Proofs.YtdeleoghaabjlaaW.PrintLast Go.Proofs.YtdeleoghaabjlaaW.PrintMore
set_option linter.unusedVariables false
set_option linter.unusedSimpArgs false
theorem w64 {x : Int} (h0 : -9223372036854775808 ≤ x) (h1 : x ≤ 9223372036854775807) : wrap64 x = x := by unfold wrap64; omega
theorem ev_k {α : Type} {g : Nat → Option α} {r : α} (h : ∀ k, g k = some r) : Ev g r := ⟨0, fun k _ => h k⟩
theorem ev_some {α : Type} {r : α} : Ev (fun _ => some r) r := Ev.now r
theorem wf_i64 {x : Int} (h : (Lit.int .i64 x).wf = true) : -9223372036854775808 ≤ x ∧ x ≤ 9223372036854775807 := by
  simp only [Lit.wf, Bool.and_eq_true, decide_eq_true_eq] at h
  have h1 : IntKind.min .i64 = -9223372036854775808 := by decide
  have h2 : IntKind.max .i64 = 9223372036854775807 := by decide
  omega
theorem wf_u8 {x : Int} (h : (Lit.int .u8 x).wf = true) : 0 ≤ x ∧ x ≤ 255 := by
  simp only [Lit.wf, Bool.and_eq_true, decide_eq_true_eq] at h
  have h1 : IntKind.min .u8 = 0 := by decide
  have h2 : IntKind.max .u8 = 255 := by decide
  omega
/-! Loops over lists, whatever the elements. -/
theorem nat_w {j : Nat} (h : j ≤ 9223372036854775806) : wrap64 ((j : Int) + 1) = ((j + 1 : Nat) : Int) := by rw [w64 (by omega) (by omega)]; omega
theorem set_take {α : Type} {acc ys : List α} {j : Nat} (hl : acc.length = ys.length) (ht : acc.take j = ys.take j) (hj : j < ys.length) {v : α} (hv : ys[j]? = some v) : (acc.set j v).take (j + 1) = ys.take (j + 1) := by
  apply List.ext_getElem?
  intro i
  by_cases hi : i < j + 1
  · rw [List.getElem?_take_of_lt hi, List.getElem?_take_of_lt hi]
    by_cases e : i = j
    · subst e
      rw [List.getElem?_set_self (by omega), hv]
    · rw [List.getElem?_set_ne (by omega)]
      have h1 := congrArg (fun l => l[i]?) ht
      simp only [List.getElem?_take_of_lt (show i < j by omega)] at h1
      exact h1
  · rw [List.getElem?_eq_none (by simp; omega), List.getElem?_eq_none (by simp; omega)]
theorem getD_some {α : Type} {xs : List α} {j : Nat} (h : j < xs.length) (d : α) : xs[j]? = some (xs.getD j d) := by
  rw [List.getD_eq_getElem?_getD, List.getElem?_eq_getElem h]; rfl
/-- A loop that writes g of each element of xs into a row of the same length. -/
theorem copy_loop {α β : Type} (g : β → α) (d : β) (xs : List β) (L : Nat → List α → Int → Option (List α)) (hn : xs.length ≤ 9223372036854775806)
    (hs : ∀ k acc (j : Nat), L (k + 1) acc (j : Int) = if j < xs.length then (if j < acc.length then L k (acc.set j (g (xs.getD j d))) (wrap64 ((j : Int) + 1)) else none) else some acc)
    (m : Nat) : ∀ (j : Nat) (acc : List α), xs.length - j = m → j ≤ xs.length → acc.length = xs.length → acc.take j = (xs.map g).take j → Ev (fun k => L k acc (j : Int)) (xs.map g) := by
  induction m with
  | zero =>
    intro j acc h0 h1 h2 h3
    refine Ev.step (fun k => hs k acc j) ?_
    simp only [if_neg (show ¬ j < xs.length by omega)]
    have e : acc = xs.map g := by
      have h4 : acc.take j = acc := List.take_of_length_le (by omega)
      have h5 : (xs.map g).take j = xs.map g := List.take_of_length_le (by simp; omega)
      rw [← h4, h3, h5]
    rw [e]
    exact ev_some
  | succ m ih =>
    intro j acc h0 h1 h2 h3
    refine Ev.step (fun k => hs k acc j) ?_
    simp only [if_pos (show j < xs.length by omega), if_pos (show j < acc.length by omega)]
    rw [nat_w (by omega)]
    refine ih (j + 1) _ (by omega) (by omega) (by simpa using h2) ?_
    refine set_take (by simpa using h2) h3 (by simp; omega) ?_
    rw [List.getElem?_map, getD_some (show j < xs.length by omega) d]
    rfl
/-- A loop that asks each index, and goes on where the answer is yes. -/
theorem all_loop (n : Nat) (L : Nat → Int → Option Bool) (hn : n ≤ 9223372036854775806) (hs : ∀ k (j : Nat), j < n → L (k + 1) (j : Int) = L k (wrap64 ((j : Int) + 1))) (he : ∀ k, L (k + 1) (n : Int) = some true)
    (m : Nat) : ∀ j : Nat, n - j = m → j ≤ n → Ev (fun k => L k (j : Int)) true := by
  induction m with
  | zero =>
    intro j h0 h1
    obtain rfl : j = n := by omega
    exact Ev.step (fun k => he k) ev_some
  | succ m ih =>
    intro j h0 h1
    refine Ev.step (fun k => hs k j (by omega)) ?_
    rw [nat_w (by omega)]
    exact ih (j + 1) (by omega) (by omega)
/-- The elements one behind the other, each turned by f with a number that goes on by c. -/
def marked {α : Type} (c : Int) (f : Int → α → α) : Int → List α → List α
  | _, [] => []
  | s, x :: xs => f s x :: marked c f (s + c) xs
theorem marked_length {α : Type} (c : Int) (f : Int → α → α) : ∀ (s : Int) (xs : List α), (marked c f s xs).length = xs.length
  | _, [] => rfl
  | s, x :: xs => by simp [marked, marked_length c f (s + c) xs]
theorem marked_at {α : Type} (c : Int) (f : Int → α → α) : ∀ (s : Int) (xs : List α) (j : Nat) (d : α), j < xs.length → (marked c f s xs)[j]? = some (f (s + c * j) (xs.getD j d))
  | _, [], j, d, h => by simp at h
  | s, x :: xs, 0, d, _ => by simp [marked]
  | s, x :: xs, j + 1, d, h => by
    have := marked_at c f (s + c) xs j d (by simpa using h)
    simp only [marked, List.getElem?_cons_succ, List.getD_cons_succ]
    rw [this]
    congr 2
    rw [Int.natCast_succ, Int.mul_add]; omega
/-- A loop that marks a row. -/
theorem mark_loop {α : Type} (c : Nat) (hc : c ≤ 8) (f : Int → α → α) (d : α) (xs : List α) (L : Nat → List α → Int → Int → Option (Int × List α)) (hn : xs.length ≤ 2000000) (s0 : Nat) (hs0 : s0 ≤ 20000000)
    (hs : ∀ k acc (s : Nat) (j : Nat), acc.length = xs.length → s ≤ 40000000 → j < xs.length → L (k + 1) acc (s : Int) (j : Int) = L k (acc.set j (f (s : Int) (acc.getD j d))) ((s + c : Nat) : Int) (wrap64 ((j : Int) + 1)))
    (he : ∀ k acc (s : Int), acc.length = xs.length → L (k + 1) acc s (xs.length : Int) = some (s, acc))
    (m : Nat) : ∀ (j : Nat) (acc : List α), xs.length - j = m → j ≤ xs.length → acc.length = xs.length → acc.take j = (marked c f s0 xs).take j → acc.drop j = xs.drop j → Ev (fun k => L k acc ((s0 + c * j : Nat) : Int) (j : Int)) (((s0 + c * xs.length : Nat) : Int), marked c f s0 xs) := by
  induction m with
  | zero =>
    intro j acc h0 h1 h2 h3 _
    obtain rfl : j = xs.length := by omega
    refine Ev.step (fun k => he k acc _ h2) ?_
    have e : acc = marked c f s0 xs := by
      have h4 : acc.take xs.length = acc := List.take_of_length_le (by omega)
      have h5 : (marked c f s0 xs).take xs.length = marked c f s0 xs := List.take_of_length_le (by rw [marked_length]; omega)
      rw [← h4, h3, h5]
    rw [e]
    exact ev_some
  | succ m ih =>
    intro j acc h0 h1 h2 h3 h4
    have hb : c * j ≤ 8 * 2000000 := Nat.mul_le_mul hc (by omega)
    refine Ev.step (fun k => hs k acc _ j h2 (by omega) (by omega)) ?_
    rw [nat_w (by omega), show s0 + c * j + c = s0 + c * (j + 1) by rw [Nat.mul_add]; omega]
    have hg : acc.getD j d = xs.getD j d := by
      have h5 := congrArg (fun l => l[0]?) h4
      simp only [List.getElem?_drop, Nat.add_zero] at h5
      rw [List.getD_eq_getElem?_getD, List.getD_eq_getElem?_getD, h5]
    refine ih (j + 1) _ (by omega) (by omega) (by simpa using h2) ?_ ?_
    · refine set_take (by rw [marked_length]; exact h2) h3 (by rw [marked_length]; omega) ?_
      rw [marked_at c f s0 xs j d (by omega), hg]
      simp
    · rw [List.drop_set_of_lt (by omega), ← List.drop_drop, h4, List.drop_drop]
/-- A loop that looks whether a row is marked so. -/
theorem held_loop (c : Nat) (hc : c ≤ 8) (n : Nat) (L : Nat → Int → Int → Option Int) (hn : n ≤ 2000000) (s0 : Nat) (hs0 : s0 ≤ 20000000)
    (hs : ∀ k (j : Nat), j < n → L (k + 1) ((s0 + c * j : Nat) : Int) (j : Int) = L k ((s0 + c * j + c : Nat) : Int) (wrap64 ((j : Int) + 1)))
    (he : ∀ k (s : Int), L (k + 1) s (n : Int) = some s)
    (m : Nat) : ∀ j : Nat, n - j = m → j ≤ n → Ev (fun k => L k ((s0 + c * j : Nat) : Int) (j : Int)) (((s0 + c * n : Nat) : Int)) := by
  induction m with
  | zero =>
    intro j h0 h1
    obtain rfl : j = n := by omega
    exact Ev.step (fun k => he k _) ev_some
  | succ m ih =>
    intro j h0 h1
    refine Ev.step (fun k => hs k j (by omega)) ?_
    rw [nat_w (by omega), show s0 + c * j + c = s0 + c * (j + 1) by rw [Nat.mul_add]; omega]
    exact ih (j + 1) (by omega) (by omega)
theorem drop_cons {α : Type} {xs : List α} {j : Nat} {t : α} {rest : List α} (h : xs.drop j = t :: rest) : j < xs.length ∧ (∀ d, xs.getD j d = t) ∧ xs.drop (j + 1) = rest := by
  have hj : j < xs.length := by
    rcases Nat.lt_or_ge j xs.length with h1 | h1
    · exact h1
    · rw [List.drop_of_length_le h1] at h; cases h
  rw [List.drop_eq_getElem_cons hj] at h
  injection h with h1 h2
  exact ⟨hj, fun d => by rw [List.getD_eq_getElem?_getD, List.getElem?_eq_getElem hj, ← h1]; rfl, h2⟩
theorem drop_nil {α : Type} {xs : List α} {j : Nat} (h : xs.drop j = []) : xs.length ≤ j := by simpa using h
theorem rdI_at (xs : List Int) (j : Nat) : rd xs (j : Int) = xs.getD j 0 := by unfold rd; rw [Int.toNat_natCast]
theorem rdB_at (xs : List Bool) (j : Nat) : rdOf false xs (j : Int) = xs.getD j false := by unfold rdOf; rw [Int.toNat_natCast]
theorem rd54_at (xs : List S54) (j : Nat) : rd_T54 xs (j : Int) = xs.getD j z54 := by unfold rd_T54; rw [Int.toNat_natCast]
theorem rd81_at (xs : List S81) (j : Nat) : rd_T81 xs (j : Int) = xs.getD j z81 := by unfold rd_T81; rw [Int.toNat_natCast]
def ce (b : S81) : S54 := ⟨b.f0, b.f1, b.f2, b.f3⟩
theorem toEdgeS_ev (xs : List S81) (hn : xs.length ≤ 2000000) : Ev (fun k => laws_toEdgeS.f k xs) (xs.map ce) := by
  unfold laws_toEdgeS.f
  simp only [if_pos (show 0 ≤ (xs.length : Int) by omega), if_pos (show ((xs.length : Int)).toNat ≤ 8796093022208 by omega)]
  have h := copy_loop ce z81 xs (fun k acc i => laws_toEdgeS.l0 k xs acc i) (by omega) (fun k acc j => by
    simp only [laws_toEdgeS.l0, laws_toEdge.f, Option.bind_some, rd81_at, Int.toNat_natCast, if_pos (show 0 ≤ (j : Int) by omega), Int.ofNat_lt, ce]) xs.length 0 (List.replicate xs.length z54) (by omega) (by omega) (by simp) (by simp)
  simpa using h
theorem toNet_ev (n : Int) (xs : List S81) (hn : xs.length ≤ 2000000) : Ev (fun k => laws_toNet.f k n xs) (n, xs.map ce) := by
  unfold laws_toNet.f
  exact Ev.bind (toEdgeS_ev xs hn) ev_some
theorem eqEdgeS_ev (xs : List S54) (hn : xs.length ≤ 2000000) : Ev (fun k => laws_eqEdgeS.f k xs xs) true := by
  unfold laws_eqEdgeS.f
  simp only [if_true]
  refine all_loop xs.length (fun k i => laws_eqEdgeS.l0 k xs xs i) (by omega) (fun k j hj => ?_) (fun k => ?_) xs.length 0 (by omega) (by omega)
  · simp only [laws_eqEdgeS.l0, if_pos (show (j : Int) < (xs.length : Int) by omega), if_pos (show 0 ≤ (j : Int) by omega), laws_eqEdge.f, if_true, Option.bind_some]
  · simp only [laws_eqEdgeS.l0, if_neg (Int.lt_irrefl _)]
theorem eqNet_ev (n : Int) (xs : List S54) (hn : xs.length ≤ 2000000) : Ev (fun k => laws_eqNet.f k n xs n xs) true := by
  unfold laws_eqNet.f
  simp only [if_true]
  refine Ev.bind (eqEdgeS_ev xs hn) ?_
  simp only [if_true]
  exact ev_some
theorem szNet_eq (n : Int) (xs : List S81) (hn : xs.length ≤ 9223372036854775807) : ∃ r, laws_szNet.f n xs 1048576 = some r ∧ (r < 0 ∨ xs.length ≤ 1048576) := by
  unfold laws_szNet.f laws_szEdgeS.f
  rw [w64 (x := (1048576 : Int) - (xs.length : Int)) (by omega) (by omega)]
  by_cases c : (1048576 : Int) - (xs.length : Int) < 0
  · simp only [if_pos c, Option.bind_some, if_pos (show (-1 : Int) < 0 by decide)]; exact ⟨_, rfl, Or.inl (by decide)⟩
  · simp only [if_neg c, Option.bind_some]; exact ⟨_, rfl, Or.inr (by omega)⟩
theorem spec_in (x lo hi : Int) : spec_l01In.f x lo hi = some (decide (lo ≤ x ∧ x ≤ hi)) := by
  unfold spec_l01In.f
  by_cases h : lo ≤ x <;> simp [h]
theorem impl_in (x lo hi : Int) : impl_between.f x lo hi = some (decide (lo ≤ x ∧ x ≤ hi)) := by
  unfold impl_between.f
  by_cases h : x ≥ lo
  · have h' : lo ≤ x := h
    simp [h, h']
  · have h' : ¬ lo ≤ x := h
    simp [h, h']
def edgeB (n : Int) (e : S54) : Bool := decide (0 ≤ e.f0 ∧ e.f0 ≤ n - 1) && (decide (0 ≤ e.f1 ∧ e.f1 ≤ n - 1) && (!decide (e.f0 = e.f1) && (decide (1 ≤ e.f2 ∧ e.f2 ≤ 100000) && decide (1 ≤ e.f3 ∧ e.f3 ≤ 90))))
def netB (n : Int) (es : List S54) : Bool := decide (1 ≤ n ∧ n ≤ 30) && (decide (es.length ≤ 60) && es.all (edgeB n))
theorem netB_parts {n : Int} {es : List S54} (h : netB n es = true) : (1 ≤ n ∧ n ≤ 30) ∧ es.length ≤ 60 ∧ ∀ e ∈ es, (0 ≤ e.f0 ∧ e.f0 ≤ n - 1) ∧ (0 ≤ e.f1 ∧ e.f1 ≤ n - 1) ∧ e.f0 ≠ e.f1 ∧ (1 ≤ e.f2 ∧ e.f2 ≤ 100000) ∧ (1 ≤ e.f3 ∧ e.f3 ≤ 90) := by
  simp only [netB, Bool.and_eq_true, decide_eq_true_eq, List.all_eq_true] at h
  refine ⟨h.1, h.2.1, fun e he => ?_⟩
  have := h.2.2 e he
  simpa [edgeB, Bool.and_eq_true, decide_eq_true_eq] using this
theorem spec_net_loop (n : Int) (hn1 : 1 ≤ n ∧ n ≤ 30) (es : List S54) (hn : es.length ≤ 2000000) : ∀ (rest : List S54) (j : Nat), es.drop j = rest → j ≤ es.length → Ev (fun k => spec_NetOk.l0 k (j : Int) n es) (rest.all (edgeB n)) := by
  intro rest
  induction rest with
  | nil =>
    intro j h hl
    have := drop_nil h
    refine Ev.step (fun k => by rw [spec_NetOk.l0]) ?_
    simp only [if_neg (show ¬ (j : Int) < (es.length : Int) by omega), List.all_nil]
    exact ev_some
  | cons e rest ih =>
    intro j h hl
    obtain ⟨h1, h2, h3⟩ := drop_cons h
    have hi := ih (j + 1) h3 (by omega)
    refine Ev.step (fun k => by rw [spec_NetOk.l0]) ?_
    simp only [if_pos (show (j : Int) < (es.length : Int) by omega), if_pos (show 0 ≤ (j : Int) by omega), nat_w (show j ≤ 9223372036854775806 by omega), rd54_at, h2, spec_in, Option.bind_some, List.all_cons, w64 (x := n - 1) (by omega) (by omega), edgeB, decide_eq_true_eq]
    by_cases c1 : 0 ≤ e.f0 ∧ e.f0 ≤ n - 1
    · simp only [if_pos c1, decide_eq_true c1, Bool.true_and]
      by_cases c2 : 0 ≤ e.f1 ∧ e.f1 ≤ n - 1
      · simp only [if_pos c2, decide_eq_true c2, Bool.true_and]
        by_cases c3 : e.f0 = e.f1
        · simp only [if_pos c3, decide_eq_true c3, Bool.not_true, Bool.false_and]; exact ev_some
        · simp only [if_neg c3, decide_eq_false c3, Bool.not_false, Bool.true_and]
          by_cases c4 : 1 ≤ e.f2 ∧ e.f2 ≤ 100000
          · simp only [if_pos c4, decide_eq_true c4, Bool.true_and]
            by_cases c5 : 1 ≤ e.f3 ∧ e.f3 ≤ 90
            · simp only [if_pos c5, decide_eq_true c5, Bool.true_and]; exact hi
            · simp only [if_neg c5, decide_eq_false c5, Bool.false_and]; exact ev_some
          · simp only [if_neg c4, decide_eq_false c4, Bool.false_and]; exact ev_some
      · simp only [if_neg c2, decide_eq_false c2, Bool.false_and]; exact ev_some
    · simp only [if_neg c1, decide_eq_false c1, Bool.false_and]; exact ev_some
theorem spec_net_ev (n : Int) (es : List S54) (hn : es.length ≤ 2000000) : Ev (fun k => spec_NetOk.f k n es) (netB n es) := by
  unfold spec_NetOk.f netB
  simp only [spec_in, Option.bind_some, decide_eq_true_eq]
  by_cases c1 : 1 ≤ n ∧ n ≤ 30
  · simp only [if_pos c1, decide_eq_true c1, Bool.true_and]
    by_cases c2 : (es.length : Int) > 60
    · simp only [decide_eq_true c2]
      rw [decide_eq_false (show ¬ es.length ≤ 60 by omega), Bool.false_and]
      exact Ev.step (fun k => by rw [spec_NetOk.j0]) (by simpa using ev_some)
    · simp only [decide_eq_false c2]
      rw [decide_eq_true (show es.length ≤ 60 by omega), Bool.true_and]
      refine Ev.step (fun k => by rw [spec_NetOk.j0]) ?_
      simp only [Bool.false_eq_true, if_false]
      exact spec_net_loop n c1 es hn es 0 rfl (by omega)
  · simp only [if_neg c1, decide_eq_false c1, Bool.false_and]
    exact Ev.step (fun k => by rw [spec_NetOk.j0]) (by simpa using ev_some)
theorem impl_node (n : Int) (hn1 : 1 ≤ n ∧ n ≤ 30) (es : List S54) (a : Int) : impl_Net_node.f n es a = some (decide (0 ≤ a ∧ a ≤ n - 1)) := by
  unfold impl_Net_node.f
  rw [w64 (x := n - 1) (by omega) (by omega), impl_in]; rfl
theorem impl_net_loop (n : Int) (hn1 : 1 ≤ n ∧ n ≤ 30) (es : List S54) (hn : es.length ≤ 2000000) : ∀ (rest : List S54) (j : Nat), es.drop j = rest → j ≤ es.length → Ev (fun k => impl_NetOk.l0 k es (es.length : Int) (j : Int) n es) (rest.all (edgeB n)) := by
  intro rest
  induction rest with
  | nil =>
    intro j h hl
    have := drop_nil h
    refine Ev.step (fun k => by rw [impl_NetOk.l0]) ?_
    simp only [if_neg (show ¬ (j : Int) < (es.length : Int) by omega), List.all_nil]
    exact ev_some
  | cons e rest ih =>
    intro j h hl
    obtain ⟨h1, h2, h3⟩ := drop_cons h
    have hi := ih (j + 1) h3 (by omega)
    refine Ev.step (fun k => by rw [impl_NetOk.l0]) ?_
    simp only [if_pos (show (j : Int) < (es.length : Int) by omega), if_pos (show 0 ≤ (j : Int) by omega), nat_w (show j ≤ 9223372036854775806 by omega), rd54_at, h2, impl_node n hn1, impl_in, Option.bind_some, List.all_cons, edgeB, decide_eq_true_eq]
    by_cases c1 : 0 ≤ e.f0 ∧ e.f0 ≤ n - 1
    · simp only [if_pos c1, decide_eq_true c1, Bool.true_and]
      by_cases c2 : 0 ≤ e.f1 ∧ e.f1 ≤ n - 1
      · simp only [if_pos c2, decide_eq_true c2, Bool.true_and]
        by_cases c3 : e.f0 = e.f1
        · simp only [if_pos c3, decide_eq_true c3, Bool.not_true, Bool.false_and]; exact ev_some
        · simp only [if_neg c3, decide_eq_false c3, Bool.not_false, Bool.true_and]
          by_cases c4 : 1 ≤ e.f2 ∧ e.f2 ≤ 100000
          · simp only [if_pos c4, decide_eq_true c4, Bool.true_and]
            by_cases c5 : 1 ≤ e.f3 ∧ e.f3 ≤ 90
            · simp only [if_pos c5, decide_eq_true c5, Bool.true_and]; exact hi
            · simp only [if_neg c5, decide_eq_false c5, Bool.false_and]; exact ev_some
          · simp only [if_neg c4, decide_eq_false c4, Bool.false_and]; exact ev_some
      · simp only [if_neg c2, decide_eq_false c2, Bool.false_and]; exact ev_some
    · simp only [if_neg c1, decide_eq_false c1, Bool.false_and]; exact ev_some
theorem impl_net_ev (n : Int) (es : List S54) (hn : es.length ≤ 2000000) : Ev (fun k => impl_NetOk.f k n es) (netB n es) := by
  unfold impl_NetOk.f netB
  simp only [impl_in, Option.bind_some, decide_eq_true_eq]
  by_cases c1 : 1 ≤ n ∧ n ≤ 30
  · simp only [if_pos c1, decide_eq_true c1, Bool.true_and]
    by_cases c2 : (es.length : Int) > 60
    · simp only [decide_eq_true c2]
      rw [decide_eq_false (show ¬ es.length ≤ 60 by omega), Bool.false_and]
      exact Ev.step (fun k => by rw [impl_NetOk.j0]) (by simpa using ev_some)
    · simp only [decide_eq_false c2]
      rw [decide_eq_true (show es.length ≤ 60 by omega), Bool.true_and]
      refine Ev.step (fun k => by rw [impl_NetOk.j0]) ?_
      simp only [Bool.false_eq_true, if_false]
      exact impl_net_loop n c1 es hn es 0 rfl (by omega)
  · simp only [if_neg c1, decide_eq_false c1, Bool.false_and]
    exact Ev.step (fun k => by rw [impl_NetOk.j0]) (by simpa using ev_some)
def walkL (es : List S54) : Int → List Int → Int × Bool
  | a, [] => (a, true)
  | a, w :: ws => if 0 ≤ w ∧ w ≤ (es.length : Int) - 1 then (if a = (es.getD w.toNat z54).f0 then walkL es (es.getD w.toNat z54).f1 ws else if a = (es.getD w.toNat z54).f1 then walkL es (es.getD w.toNat z54).f0 ws else (0, false)) else (0, false)
def walkR (n : Int) (es : List S54) (a : Int) (ws : List Int) : Int × Bool := if netB n es = true ∧ (0 ≤ a ∧ a ≤ n - 1) ∧ ws.length ≤ 60 then walkL es a ws else (0, false)
theorem rd54_to (xs : List S54) (i : Int) : rd_T54 xs i = xs.getD i.toNat z54 := rfl
theorem impl_walk_loop (n : Int) (es : List S54) (ws : List Int) (hw : ws.length ≤ 60) (he : es.length ≤ 60) : ∀ (rest : List Int) (j : Nat) (a : Int), ws.drop j = rest → j ≤ ws.length → Ev (fun k => impl_Walk.l0 k a ws (ws.length : Int) (j : Int) n es) (walkL es a rest) := by
  intro rest
  induction rest with
  | nil =>
    intro j a h hl
    have := drop_nil h
    refine Ev.step (fun k => by rw [impl_Walk.l0]) ?_
    simp only [if_neg (show ¬ (j : Int) < (ws.length : Int) by omega), walkL]
    exact ev_some
  | cons w rest ih =>
    intro j a h hl
    obtain ⟨h1, h2, h3⟩ := drop_cons h
    refine Ev.step (fun k => by rw [impl_Walk.l0]) ?_
    simp only [if_pos (show (j : Int) < (ws.length : Int) by omega), if_pos (show 0 ≤ (j : Int) by omega), nat_w (show j ≤ 9223372036854775806 by omega), rdI_at, h2, impl_in, Option.bind_some, w64 (x := (es.length : Int) - 1) (by omega) (by omega), decide_eq_true_eq, walkL, rd54_to]
    by_cases c : 0 ≤ w ∧ w ≤ (es.length : Int) - 1
    · simp only [if_pos c, if_pos (show 0 ≤ w from c.1), if_pos (show w < (es.length : Int) by omega), impl_Edge_other.f]
      by_cases c1 : a = (es.getD w.toNat z54).f0
      · simp only [if_pos c1, Option.bind_some, if_true]; exact ih (j + 1) _ h3 (by omega)
      · by_cases c2 : a = (es.getD w.toNat z54).f1
        · simp only [if_neg c1, if_pos c2, Option.bind_some, if_true]; exact ih (j + 1) _ h3 (by omega)
        · simp only [if_neg c1, if_neg c2, Option.bind_some, Bool.false_eq_true, if_false]; exact ev_some
    · simp only [if_neg c]; exact ev_some
theorem impl_walk_ev (n : Int) (es : List S54) (he : es.length ≤ 2000000) (a : Int) (ws : List Int) : Ev (fun k => impl_Walk.f k n es a ws) (walkR n es a ws) := by
  unfold impl_Walk.f walkR
  have hno : ∀ r, r = (0, false) → Ev (fun k => impl_Walk.j0 k a ws true n es) r := fun r hr => by
    rw [hr]; exact Ev.step (fun k => by rw [impl_Walk.j0]) (by simpa using ev_some)
  refine Ev.bind (impl_net_ev n es he) ?_
  by_cases c0 : netB n es = true
  · obtain ⟨n1, n2, _⟩ := netB_parts c0
    simp only [if_pos c0, impl_node n n1, Option.bind_some, decide_eq_true_eq]
    by_cases c1 : 0 ≤ a ∧ a ≤ n - 1
    · simp only [if_pos c1]
      by_cases c2 : (ws.length : Int) > 60
      · simp only [decide_eq_true c2]
        exact hno _ (by rw [if_neg (fun h => by have := h.2.2; omega)])
      · simp only [decide_eq_false c2]
        refine Ev.step (fun k => by rw [impl_Walk.j0]) ?_
        simp only [Bool.false_eq_true, if_false, c0, c1, true_and, and_self, show ws.length ≤ 60 by omega, if_true]
        exact impl_walk_loop n es ws (by omega) n2 ws 0 a rfl (by omega)
    · simp only [if_neg c1]
      exact hno _ (by rw [if_neg (fun h => c1 h.2.1)])
  · simp only [if_neg c0]
    exact hno _ (by rw [if_neg (fun h => c0 h.1)])
theorem spec_walk_loop (n : Int) (es : List S54) (hb : netB n es = true) (ws : List Int) (hw : ws.length ≤ 60) : ∀ (rest : List Int) (j : Nat) (a : Int), ws.drop j = rest → j ≤ ws.length → Ev (fun k => spec_Walk.l0 k ws a (j : Int) n es) (walkL es a rest) := by
  obtain ⟨n1, he, hes⟩ := netB_parts hb
  intro rest
  induction rest with
  | nil =>
    intro j a h hl
    have := drop_nil h
    refine Ev.step (fun k => by rw [spec_Walk.l0]) ?_
    simp only [if_neg (show ¬ (j : Int) < (ws.length : Int) by omega), walkL]
    exact ev_some
  | cons w rest ih =>
    intro j a h hl
    obtain ⟨h1, h2, h3⟩ := drop_cons h
    refine Ev.step (fun k => by rw [spec_Walk.l0]) ?_
    simp only [if_pos (show (j : Int) < (ws.length : Int) by omega), if_pos (show 0 ≤ (j : Int) by omega), nat_w (show j ≤ 9223372036854775806 by omega), rdI_at, h2, spec_in, Option.bind_some, w64 (x := (es.length : Int) - 1) (by omega) (by omega), decide_eq_true_eq, walkL, rd54_to]
    by_cases c : 0 ≤ w ∧ w ≤ (es.length : Int) - 1
    · have hm : es.getD w.toNat z54 ∈ es := by
        rw [List.getD_eq_getElem?_getD, List.getElem?_eq_getElem (show w.toNat < es.length by omega)]; exact List.getElem_mem _
      obtain ⟨b0, b1, _⟩ := hes _ hm
      simp only [if_pos c, if_pos (show 0 ≤ w from c.1), if_pos (show w < (es.length : Int) by omega), spec_l02Other.f]
      generalize es.getD w.toNat z54 = e at b0 b1 ⊢
      by_cases c1 : a = e.f0
      · simp only [if_pos c1, if_pos c1.symm, Option.bind_some, if_neg (show ¬ e.f1 < 0 by omega)]; exact ih (j + 1) _ h3 (by omega)
      · have c1' : ¬ e.f0 = a := fun h => c1 h.symm
        by_cases c2 : a = e.f1
        · simp only [if_neg c1, if_neg c1', if_pos c2, if_pos c2.symm, Option.bind_some, if_neg (show ¬ e.f0 < 0 by omega)]; exact ih (j + 1) _ h3 (by omega)
        · have c2' : ¬ e.f1 = a := fun h => c2 h.symm
          simp only [if_neg c1, if_neg c1', if_neg c2, if_neg c2', Option.bind_some, if_pos (show (-1 : Int) < 0 by decide)]; exact ev_some
    · simp only [if_neg c]; exact ev_some
theorem spec_walk_ev (n : Int) (es : List S54) (he : es.length ≤ 2000000) (a : Int) (ws : List Int) : Ev (fun k => spec_Walk.f k n es a ws) (walkR n es a ws) := by
  unfold spec_Walk.f walkR
  have hno : ∀ r, r = (0, false) → Ev (fun k => spec_Walk.j0 k a ws true n es) r := fun r hr => by
    rw [hr]; exact Ev.step (fun k => by rw [spec_Walk.j0]) (by simpa using ev_some)
  refine Ev.bind (spec_net_ev n es he) ?_
  by_cases c0 : netB n es = true
  · obtain ⟨n1, n2, _⟩ := netB_parts c0
    simp only [if_pos c0, spec_in, w64 (x := n - 1) (by omega) (by omega), Option.bind_some, decide_eq_true_eq]
    by_cases c1 : 0 ≤ a ∧ a ≤ n - 1
    · simp only [if_pos c1]
      by_cases c2 : (ws.length : Int) > 60
      · simp only [decide_eq_true c2]
        exact hno _ (by rw [if_neg (fun h => by have := h.2.2; omega)])
      · simp only [decide_eq_false c2]
        refine Ev.step (fun k => by rw [spec_Walk.j0]) ?_
        simp only [Bool.false_eq_true, if_false, c0, c1, true_and, and_self, show ws.length ≤ 60 by omega, if_true]
        exact spec_walk_loop n es c0 ws (by omega) ws 0 a rfl (by omega)
    · simp only [if_neg c1]
      exact hno _ (by rw [if_neg (fun h => c1 h.2.1)])
  · simp only [if_neg c0]
    exact hno _ (by rw [if_neg (fun h => c0 h.1)])
theorem walkL_in (es : List S54) : ∀ (ws : List Int) (a : Int), (walkL es a ws).2 = true → ∀ w ∈ ws, 0 ≤ w ∧ w < (es.length : Int)
  | [], _, _, w, h => by cases h
  | v :: ws, a, h, w, hw => by
    simp only [walkL] at h
    by_cases c : 0 ≤ v ∧ v ≤ (es.length : Int) - 1
    · rw [if_pos c] at h
      rcases List.mem_cons.mp hw with rfl | h2
      · omega
      · by_cases c1 : a = (es.getD v.toNat z54).f0
        · rw [if_pos c1] at h; exact walkL_in es ws _ h w h2
        · rw [if_neg c1] at h
          by_cases c2 : a = (es.getD v.toNat z54).f1
          · rw [if_pos c2] at h; exact walkL_in es ws _ h w h2
          · rw [if_neg c2] at h; cases h
    · rw [if_neg c] at h; cases h
def lenL (es : List S54) : Int → List Int → Int
  | s, [] => s
  | s, w :: ws => lenL es (s + (es.getD w.toNat z54).f2) ws
def wayR (n : Int) (es : List S54) (a : Int) (ws : List Int) : Int := if (walkR n es a ws).2 = true then lenL es 0 ws else -1
theorem impl_len_loop (n : Int) (es : List S54) (hb : netB n es = true) (ws : List Int) (hw : ws.length ≤ 60) (hin : ∀ w ∈ ws, 0 ≤ w ∧ w < (es.length : Int)) : ∀ (rest : List Int) (j : Nat) (s : Int), ws.drop j = rest → j ≤ ws.length → 0 ≤ s → s ≤ 100000 * j → (∀ w ∈ rest, 0 ≤ w ∧ w < (es.length : Int)) → Ev (fun k => impl_WayLen.l0 k s ws (ws.length : Int) (j : Int) n es) (lenL es s rest) := by
  obtain ⟨n1, he, hes⟩ := netB_parts hb
  intro rest
  induction rest with
  | nil =>
    intro j s h hl _ _ _
    have := drop_nil h
    refine Ev.step (fun k => by rw [impl_WayLen.l0]) ?_
    simp only [if_neg (show ¬ (j : Int) < (ws.length : Int) by omega), lenL]
    exact ev_some
  | cons w rest ih =>
    intro j s h hl s0 s1 hr
    obtain ⟨h1, h2, h3⟩ := drop_cons h
    have hwi := hr w (List.mem_cons_self ..)
    have hm : es.getD w.toNat z54 ∈ es := by
      rw [List.getD_eq_getElem?_getD, List.getElem?_eq_getElem (show w.toNat < es.length by omega)]; exact List.getElem_mem _
    obtain ⟨_, _, _, b2, _⟩ := hes _ hm
    refine Ev.step (fun k => by rw [impl_WayLen.l0]) ?_
    simp only [if_pos (show (j : Int) < (ws.length : Int) by omega), if_pos (show 0 ≤ (j : Int) by omega), nat_w (show j ≤ 9223372036854775806 by omega), rdI_at, h2, if_pos hwi.1, if_pos hwi.2, rd54_to, lenL]
    rw [w64 (x := s + (es.getD w.toNat z54).f2) (by omega) (by omega)]
    exact ih (j + 1) _ h3 (by omega) (by omega) (by omega) (fun v hv => hr v (List.mem_cons_of_mem _ hv))
theorem spec_len_loop (n : Int) (es : List S54) (hb : netB n es = true) (ws : List Int) (hw : ws.length ≤ 60) (hin : ∀ w ∈ ws, 0 ≤ w ∧ w < (es.length : Int)) : ∀ (rest : List Int) (j : Nat) (s : Int), ws.drop j = rest → j ≤ ws.length → 0 ≤ s → s ≤ 100000 * j → (∀ w ∈ rest, 0 ≤ w ∧ w < (es.length : Int)) → Ev (fun k => spec_WayLen.l0 k ws s (j : Int) n es) (lenL es s rest) := by
  obtain ⟨n1, he, hes⟩ := netB_parts hb
  intro rest
  induction rest with
  | nil =>
    intro j s h hl _ _ _
    have := drop_nil h
    refine Ev.step (fun k => by rw [spec_WayLen.l0]) ?_
    simp only [if_neg (show ¬ (j : Int) < (ws.length : Int) by omega), lenL]
    exact ev_some
  | cons w rest ih =>
    intro j s h hl s0 s1 hr
    obtain ⟨h1, h2, h3⟩ := drop_cons h
    have hwi := hr w (List.mem_cons_self ..)
    have hm : es.getD w.toNat z54 ∈ es := by
      rw [List.getD_eq_getElem?_getD, List.getElem?_eq_getElem (show w.toNat < es.length by omega)]; exact List.getElem_mem _
    obtain ⟨_, _, _, b2, _⟩ := hes _ hm
    refine Ev.step (fun k => by rw [spec_WayLen.l0]) ?_
    simp only [if_pos (show (j : Int) < (ws.length : Int) by omega), if_pos (show 0 ≤ (j : Int) by omega), nat_w (show j ≤ 9223372036854775806 by omega), rdI_at, h2, if_pos hwi.1, if_pos hwi.2, rd54_to, lenL]
    rw [w64 (x := s + (es.getD w.toNat z54).f2) (by omega) (by omega)]
    exact ih (j + 1) _ h3 (by omega) (by omega) (by omega) (fun v hv => hr v (List.mem_cons_of_mem _ hv))
theorem walkR_yes {n : Int} {es : List S54} {a : Int} {ws : List Int} (h : (walkR n es a ws).2 = true) : netB n es = true ∧ ws.length ≤ 60 ∧ ∀ w ∈ ws, 0 ≤ w ∧ w < (es.length : Int) := by
  unfold walkR at h
  by_cases c : netB n es = true ∧ (0 ≤ a ∧ a ≤ n - 1) ∧ ws.length ≤ 60
  · rw [if_pos c] at h
    exact ⟨c.1, c.2.2, walkL_in es ws a h⟩
  · rw [if_neg c] at h; cases h
theorem impl_way_ev (n : Int) (es : List S54) (he : es.length ≤ 2000000) (a : Int) (ws : List Int) : Ev (fun k => impl_WayLen.f k n es a ws) (wayR n es a ws) := by
  unfold impl_WayLen.f wayR
  refine Ev.bind (impl_walk_ev n es he a ws) ?_
  by_cases c : (walkR n es a ws).2 = true
  · obtain ⟨h1, h2, h3⟩ := walkR_yes c
    simp only [if_pos c]
    exact impl_len_loop n es h1 ws h2 h3 ws 0 0 rfl (by omega) (by omega) (by omega) h3
  · simp only [if_neg c]; exact ev_some
theorem spec_way_ev (n : Int) (es : List S54) (he : es.length ≤ 2000000) (a : Int) (ws : List Int) : Ev (fun k => spec_WayLen.f k n es a ws) (wayR n es a ws) := by
  unfold spec_WayLen.f wayR
  refine Ev.bind (spec_walk_ev n es he a ws) ?_
  by_cases c : (walkR n es a ws).2 = true
  · obtain ⟨h1, h2, h3⟩ := walkR_yes c
    simp only [if_pos c]
    exact spec_len_loop n es h1 ws h2 h3 ws 0 0 rfl (by omega) (by omega) (by omega) h3
  · simp only [if_neg c]; exact ev_some
theorem toIntS_ev (xs : List Int) (hn : xs.length ≤ 2000000) : Ev (fun k => laws_toIntS.f k xs) xs := by
  unfold laws_toIntS.f
  simp only [if_pos (show 0 ≤ (xs.length : Int) by omega), if_pos (show ((xs.length : Int)).toNat ≤ 35184372088832 by omega)]
  have h := copy_loop (fun b : Int => b) 0 xs (fun k acc i => laws_toIntS.l0 k xs acc i) (by omega) (fun k acc j => by
    simp only [laws_toIntS.l0, rd, Int.toNat_natCast, if_pos (show 0 ≤ (j : Int) by omega), Int.ofNat_lt]) xs.length 0 (List.replicate xs.length 0) (by omega) (by omega) (by simp) (by simp)
  simpa using h
theorem eqIntS_ev (xs : List Int) (hn : xs.length ≤ 2000000) : Ev (fun k => laws_eqIntS.f k xs xs) true := by
  unfold laws_eqIntS.f
  simp only [if_true]
  refine all_loop xs.length (fun k i => laws_eqIntS.l0 k xs xs i) (by omega) (fun k j hj => ?_) (fun k => ?_) xs.length 0 (by omega) (by omega)
  · simp [laws_eqIntS.l0, hj]
  · simp [laws_eqIntS.l0]
theorem FnExactWayLen : laws_FnExactWayLen.Pure := by
  intro n l a ws _ hl _ _
  refine Ev.rounds ?_
  unfold laws_FnExactWayLen.f
  have hm : maxLen ≤ 9223372036854775807 := by decide
  by_cases c0 : (ws.length : Int) > 1048576
  · simp only [if_pos c0]; exact ev_some
  simp only [if_neg c0]
  have hws : ws.length ≤ 2000000 := by omega
  obtain ⟨r, hr, hc⟩ := szNet_eq n l (by omega)
  simp only [hr, Option.bind_some]
  by_cases c : r < 0
  · simp only [if_pos c]; exact ev_some
  · simp only [if_neg c]
    have hn : l.length ≤ 2000000 := by omega
    have hn2 : (l.map ce).length ≤ 2000000 := by rw [List.length_map]; exact hn
    refine Ev.bind (toNet_ev n l hn) (Ev.bind (toIntS_ev ws hws) (Ev.bind (spec_way_ev n _ hn2 a ws) (Ev.bind (toNet_ev n l hn) (Ev.bind (toIntS_ev ws hws) (Ev.bind (impl_way_ev n _ hn2 a ws) ?_)))))
    simp only [if_true]
    refine Ev.bind (toNet_ev n l hn) (Ev.bind (eqNet_ev n _ hn2) ?_)
    simp only [if_true]
    refine Ev.bind (toIntS_ev ws hws) (Ev.bind (eqIntS_ev ws hws) ?_)
    simp only [if_true]
    exact ev_some

end Go.Proofs.Ytdeleoghaabjlaa.Pure
