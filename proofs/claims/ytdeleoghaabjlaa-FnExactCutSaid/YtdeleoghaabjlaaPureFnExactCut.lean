/- The program's Cut returns what the reference's returns, for all nets and places. -/
import Derived.Test.YtdeleoghaabjlaaRowFnExactCut
namespace Go.Proofs.Ytdeleoghaabjlaa.Pure
open Go.RowKit Go.Proofs.Ytdeleoghaabjlaa.PFnExactCut Go.Proofs.YtdeleoghaabjlaaW.PrintWords Go.Proofs.YtdeleoghaabjlaaW.PrintLast Go.Proofs.YtdeleoghaabjlaaW.PrintMore
set_option linter.unusedVariables false
set_option linter.unusedSimpArgs false
theorem w64 {x : Int} (h0 : -9223372036854775808 ≤ x) (h1 : x ≤ 9223372036854775807) : wrap64 x = x := by unfold wrap64; omega
theorem ev_k {α : Type} {g : Nat → Option α} {r : α} (h : ∀ k, g k = some r) : Ev g r := ⟨0, fun k _ => h k⟩
theorem ev_some {α : Type} {r : α} : Ev (fun _ => some r) r := Ev.now r
theorem wf_i64 {x : Int} (h : (Lit.int .i64 x).wf = true) : -9223372036854775808 ≤ x ∧ x ≤ 9223372036854775807 := by
  simp only [Lit.wf, Bool.and_eq_true, decide_eq_true_eq] at h
  have h1 : IntKind.min .i64 = -9223372036854775808 := by decide
  have h2 : IntKind.max .i64 = 9223372036854775807 := by decide
  omega
theorem wf_u8 {x : Int} (h : (Lit.int .u8 x).wf = true) : 0 ≤ x ∧ x ≤ 255 := by
  simp only [Lit.wf, Bool.and_eq_true, decide_eq_true_eq] at h
  have h1 : IntKind.min .u8 = 0 := by decide
  have h2 : IntKind.max .u8 = 255 := by decide
  omega
/-! Loops over lists, whatever the elements. -/
theorem nat_w {j : Nat} (h : j ≤ 9223372036854775806) : wrap64 ((j : Int) + 1) = ((j + 1 : Nat) : Int) := by rw [w64 (by omega) (by omega)]; omega
theorem set_take {α : Type} {acc ys : List α} {j : Nat} (hl : acc.length = ys.length) (ht : acc.take j = ys.take j) (hj : j < ys.length) {v : α} (hv : ys[j]? = some v) : (acc.set j v).take (j + 1) = ys.take (j + 1) := by
  apply List.ext_getElem?
  intro i
  by_cases hi : i < j + 1
  · rw [List.getElem?_take_of_lt hi, List.getElem?_take_of_lt hi]
    by_cases e : i = j
    · subst e
      rw [List.getElem?_set_self (by omega), hv]
    · rw [List.getElem?_set_ne (by omega)]
      have h1 := congrArg (fun l => l[i]?) ht
      simp only [List.getElem?_take_of_lt (show i < j by omega)] at h1
      exact h1
  · rw [List.getElem?_eq_none (by simp; omega), List.getElem?_eq_none (by simp; omega)]
theorem getD_some {α : Type} {xs : List α} {j : Nat} (h : j < xs.length) (d : α) : xs[j]? = some (xs.getD j d) := by
  rw [List.getD_eq_getElem?_getD, List.getElem?_eq_getElem h]; rfl
/-- A loop that writes g of each element of xs into a row of the same length. -/
theorem copy_loop {α β : Type} (g : β → α) (d : β) (xs : List β) (L : Nat → List α → Int → Option (List α)) (hn : xs.length ≤ 9223372036854775806)
    (hs : ∀ k acc (j : Nat), L (k + 1) acc (j : Int) = if j < xs.length then (if j < acc.length then L k (acc.set j (g (xs.getD j d))) (wrap64 ((j : Int) + 1)) else none) else some acc)
    (m : Nat) : ∀ (j : Nat) (acc : List α), xs.length - j = m → j ≤ xs.length → acc.length = xs.length → acc.take j = (xs.map g).take j → Ev (fun k => L k acc (j : Int)) (xs.map g) := by
  induction m with
  | zero =>
    intro j acc h0 h1 h2 h3
    refine Ev.step (fun k => hs k acc j) ?_
    simp only [if_neg (show ¬ j < xs.length by omega)]
    have e : acc = xs.map g := by
      have h4 : acc.take j = acc := List.take_of_length_le (by omega)
      have h5 : (xs.map g).take j = xs.map g := List.take_of_length_le (by simp; omega)
      rw [← h4, h3, h5]
    rw [e]
    exact ev_some
  | succ m ih =>
    intro j acc h0 h1 h2 h3
    refine Ev.step (fun k => hs k acc j) ?_
    simp only [if_pos (show j < xs.length by omega), if_pos (show j < acc.length by omega)]
    rw [nat_w (by omega)]
    refine ih (j + 1) _ (by omega) (by omega) (by simpa using h2) ?_
    refine set_take (by simpa using h2) h3 (by simp; omega) ?_
    rw [List.getElem?_map, getD_some (show j < xs.length by omega) d]
    rfl
/-- A loop that asks each index, and goes on where the answer is yes. -/
theorem all_loop (n : Nat) (L : Nat → Int → Option Bool) (hn : n ≤ 9223372036854775806) (hs : ∀ k (j : Nat), j < n → L (k + 1) (j : Int) = L k (wrap64 ((j : Int) + 1))) (he : ∀ k, L (k + 1) (n : Int) = some true)
    (m : Nat) : ∀ j : Nat, n - j = m → j ≤ n → Ev (fun k => L k (j : Int)) true := by
  induction m with
  | zero =>
    intro j h0 h1
    obtain rfl : j = n := by omega
    exact Ev.step (fun k => he k) ev_some
  | succ m ih =>
    intro j h0 h1
    refine Ev.step (fun k => hs k j (by omega)) ?_
    rw [nat_w (by omega)]
    exact ih (j + 1) (by omega) (by omega)
/-- The elements one behind the other, each turned by f with a number that goes on by c. -/
def marked {α : Type} (c : Int) (f : Int → α → α) : Int → List α → List α
  | _, [] => []
  | s, x :: xs => f s x :: marked c f (s + c) xs
theorem marked_length {α : Type} (c : Int) (f : Int → α → α) : ∀ (s : Int) (xs : List α), (marked c f s xs).length = xs.length
  | _, [] => rfl
  | s, x :: xs => by simp [marked, marked_length c f (s + c) xs]
theorem marked_at {α : Type} (c : Int) (f : Int → α → α) : ∀ (s : Int) (xs : List α) (j : Nat) (d : α), j < xs.length → (marked c f s xs)[j]? = some (f (s + c * j) (xs.getD j d))
  | _, [], j, d, h => by simp at h
  | s, x :: xs, 0, d, _ => by simp [marked]
  | s, x :: xs, j + 1, d, h => by
    have := marked_at c f (s + c) xs j d (by simpa using h)
    simp only [marked, List.getElem?_cons_succ, List.getD_cons_succ]
    rw [this]
    congr 2
    rw [Int.natCast_succ, Int.mul_add]; omega
/-- A loop that marks a row. -/
theorem mark_loop {α : Type} (c : Nat) (hc : c ≤ 8) (f : Int → α → α) (d : α) (xs : List α) (L : Nat → List α → Int → Int → Option (Int × List α)) (hn : xs.length ≤ 2000000) (s0 : Nat) (hs0 : s0 ≤ 20000000)
    (hs : ∀ k acc (s : Nat) (j : Nat), acc.length = xs.length → s ≤ 40000000 → j < xs.length → L (k + 1) acc (s : Int) (j : Int) = L k (acc.set j (f (s : Int) (acc.getD j d))) ((s + c : Nat) : Int) (wrap64 ((j : Int) + 1)))
    (he : ∀ k acc (s : Int), acc.length = xs.length → L (k + 1) acc s (xs.length : Int) = some (s, acc))
    (m : Nat) : ∀ (j : Nat) (acc : List α), xs.length - j = m → j ≤ xs.length → acc.length = xs.length → acc.take j = (marked c f s0 xs).take j → acc.drop j = xs.drop j → Ev (fun k => L k acc ((s0 + c * j : Nat) : Int) (j : Int)) (((s0 + c * xs.length : Nat) : Int), marked c f s0 xs) := by
  induction m with
  | zero =>
    intro j acc h0 h1 h2 h3 _
    obtain rfl : j = xs.length := by omega
    refine Ev.step (fun k => he k acc _ h2) ?_
    have e : acc = marked c f s0 xs := by
      have h4 : acc.take xs.length = acc := List.take_of_length_le (by omega)
      have h5 : (marked c f s0 xs).take xs.length = marked c f s0 xs := List.take_of_length_le (by rw [marked_length]; omega)
      rw [← h4, h3, h5]
    rw [e]
    exact ev_some
  | succ m ih =>
    intro j acc h0 h1 h2 h3 h4
    have hb : c * j ≤ 8 * 2000000 := Nat.mul_le_mul hc (by omega)
    refine Ev.step (fun k => hs k acc _ j h2 (by omega) (by omega)) ?_
    rw [nat_w (by omega), show s0 + c * j + c = s0 + c * (j + 1) by rw [Nat.mul_add]; omega]
    have hg : acc.getD j d = xs.getD j d := by
      have h5 := congrArg (fun l => l[0]?) h4
      simp only [List.getElem?_drop, Nat.add_zero] at h5
      rw [List.getD_eq_getElem?_getD, List.getD_eq_getElem?_getD, h5]
    refine ih (j + 1) _ (by omega) (by omega) (by simpa using h2) ?_ ?_
    · refine set_take (by rw [marked_length]; exact h2) h3 (by rw [marked_length]; omega) ?_
      rw [marked_at c f s0 xs j d (by omega), hg]
      simp
    · rw [List.drop_set_of_lt (by omega), ← List.drop_drop, h4, List.drop_drop]
/-- A loop that looks whether a row is marked so. -/
theorem held_loop (c : Nat) (hc : c ≤ 8) (n : Nat) (L : Nat → Int → Int → Option Int) (hn : n ≤ 2000000) (s0 : Nat) (hs0 : s0 ≤ 20000000)
    (hs : ∀ k (j : Nat), j < n → L (k + 1) ((s0 + c * j : Nat) : Int) (j : Int) = L k ((s0 + c * j + c : Nat) : Int) (wrap64 ((j : Int) + 1)))
    (he : ∀ k (s : Int), L (k + 1) s (n : Int) = some s)
    (m : Nat) : ∀ j : Nat, n - j = m → j ≤ n → Ev (fun k => L k ((s0 + c * j : Nat) : Int) (j : Int)) (((s0 + c * n : Nat) : Int)) := by
  induction m with
  | zero =>
    intro j h0 h1
    obtain rfl : j = n := by omega
    exact Ev.step (fun k => he k _) ev_some
  | succ m ih =>
    intro j h0 h1
    refine Ev.step (fun k => hs k j (by omega)) ?_
    rw [nat_w (by omega), show s0 + c * j + c = s0 + c * (j + 1) by rw [Nat.mul_add]; omega]
    exact ih (j + 1) (by omega) (by omega)
theorem drop_cons {α : Type} {xs : List α} {j : Nat} {t : α} {rest : List α} (h : xs.drop j = t :: rest) : j < xs.length ∧ (∀ d, xs.getD j d = t) ∧ xs.drop (j + 1) = rest := by
  have hj : j < xs.length := by
    rcases Nat.lt_or_ge j xs.length with h1 | h1
    · exact h1
    · rw [List.drop_of_length_le h1] at h; cases h
  rw [List.drop_eq_getElem_cons hj] at h
  injection h with h1 h2
  exact ⟨hj, fun d => by rw [List.getD_eq_getElem?_getD, List.getElem?_eq_getElem hj, ← h1]; rfl, h2⟩
theorem drop_nil {α : Type} {xs : List α} {j : Nat} (h : xs.drop j = []) : xs.length ≤ j := by simpa using h
theorem rdI_at (xs : List Int) (j : Nat) : rd xs (j : Int) = xs.getD j 0 := by unfold rd; rw [Int.toNat_natCast]
theorem rdB_at (xs : List Bool) (j : Nat) : rdOf false xs (j : Int) = xs.getD j false := by unfold rdOf; rw [Int.toNat_natCast]
def edgeB (n : Int) (e : S54) : Bool := decide (0 ≤ e.f0 ∧ e.f0 ≤ n - 1) && (decide (0 ≤ e.f1 ∧ e.f1 ≤ n - 1) && (!decide (e.f0 = e.f1) && (decide (1 ≤ e.f2 ∧ e.f2 ≤ 100000) && decide (1 ≤ e.f3 ∧ e.f3 ≤ 90))))
def netB (n : Int) (es : List S54) : Bool := decide (1 ≤ n ∧ n ≤ 30) && (decide (es.length ≤ 60) && es.all (edgeB n))
theorem netB_parts {n : Int} {es : List S54} (h : netB n es = true) : (1 ≤ n ∧ n ≤ 30) ∧ es.length ≤ 60 ∧ ∀ e ∈ es, (0 ≤ e.f0 ∧ e.f0 ≤ n - 1) ∧ (0 ≤ e.f1 ∧ e.f1 ≤ n - 1) ∧ e.f0 ≠ e.f1 ∧ (1 ≤ e.f2 ∧ e.f2 ≤ 100000) ∧ (1 ≤ e.f3 ∧ e.f3 ≤ 90) := by
  simp only [netB, Bool.and_eq_true, decide_eq_true_eq, List.all_eq_true] at h
  refine ⟨h.1, h.2.1, fun e he => ?_⟩
  have := h.2.2 e he
  simpa [edgeB, Bool.and_eq_true, decide_eq_true_eq] using this
theorem rd54_at (xs : List S54) (j : Nat) : rd_T54 xs (j : Int) = xs.getD j z54 := by unfold rd_T54; rw [Int.toNat_natCast]
/-- The edges but the one at place k. -/
def dropL (k : Int) : Nat → List S54 → List S54
  | _, [] => []
  | i, x :: xs => (if (i : Int) = k then [] else [x]) ++ dropL k (i + 1) xs
theorem dropL_past (k : Int) : ∀ (i : Nat) (xs : List S54), k < (i : Int) → dropL k i xs = xs
  | _, [], _ => rfl
  | i, x :: xs, h => by
    simp only [dropL, if_neg (show ¬ (i : Int) = k by omega)]
    rw [dropL_past k (i + 1) xs (by omega)]; rfl
theorem dropL_eq : ∀ (xs : List S54) (i j : Nat), dropL ((i + j : Nat) : Int) i xs = xs.take j ++ xs.drop (j + 1)
  | [], i, j => by simp [dropL]
  | x :: xs, i, 0 => by
    simp only [dropL, Nat.add_zero, if_true, List.take_zero, List.nil_append]
    rw [dropL_past _ (i + 1) xs (by omega)]; simp
  | x :: xs, i, j + 1 => by
    simp only [dropL, if_neg (show ¬ (i : Int) = ((i + (j + 1) : Nat) : Int) by omega)]
    have := dropL_eq xs (i + 1) j
    rw [show i + 1 + j = i + (j + 1) by omega] at this
    rw [this]; simp
def cutL (es : List S54) (a : Nat) : List S54 := es.take a ++ es.drop (a + 1)
def cutR (n : Int) (es : List S54) (a : Int) : Int × List S54 := if netB n es = true ∧ (0 ≤ a ∧ a ≤ (es.length : Int) - 1) then (n, cutL es a.toNat) else (0, [])
theorem cutL_length {es : List S54} {a : Nat} (h : a < es.length) : (cutL es a).length = es.length - 1 := by
  unfold cutL
  rw [List.length_append, List.length_take, List.length_drop]; omega
theorem cutR_length (n : Int) (es : List S54) (a : Int) : (cutR n es a).2.length ≤ 60 := by
  unfold cutR
  split
  · rename_i h
    obtain ⟨_, n2, _⟩ := netB_parts h.1
    show (cutL es a.toNat).length ≤ 60
    rw [cutL_length (by omega)]; omega
  · simp
theorem cutL_net {n : Int} {es : List S54} (hb : netB n es = true) {a : Nat} (h : a < es.length) : netB n (cutL es a) = true := by
  have hb' := hb
  unfold netB at hb ⊢
  rw [Bool.and_eq_true, Bool.and_eq_true, decide_eq_true_eq, decide_eq_true_eq, List.all_eq_true] at hb ⊢
  refine ⟨hb.1, by rw [cutL_length h]; omega, fun e he => hb.2.2 e ?_⟩
  unfold cutL at he
  rcases List.mem_append.1 he with h1 | h1
  · exact List.mem_of_mem_take h1
  · exact List.mem_of_mem_drop h1
theorem spec_in (x lo hi : Int) : spec_l01In.f x lo hi = some (decide (lo ≤ x ∧ x ≤ hi)) := by
  unfold spec_l01In.f
  by_cases h : lo ≤ x <;> simp [h]
theorem spec_net_loop (n : Int) (hn1 : 1 ≤ n ∧ n ≤ 30) (es : List S54) (hn : es.length ≤ 2000000) : ∀ (rest : List S54) (j : Nat), es.drop j = rest → j ≤ es.length → Ev (fun k => spec_NetOk.l0 k (j : Int) n es) (rest.all (edgeB n)) := by
  intro rest
  induction rest with
  | nil =>
    intro j h hl
    have := drop_nil h
    refine Ev.step (fun k => by rw [spec_NetOk.l0]) ?_
    simp only [if_neg (show ¬ (j : Int) < (es.length : Int) by omega), List.all_nil]
    exact ev_some
  | cons e rest ih =>
    intro j h hl
    obtain ⟨h1, h2, h3⟩ := drop_cons h
    have hi := ih (j + 1) h3 (by omega)
    refine Ev.step (fun k => by rw [spec_NetOk.l0]) ?_
    simp only [if_pos (show (j : Int) < (es.length : Int) by omega), if_pos (show 0 ≤ (j : Int) by omega), nat_w (show j ≤ 9223372036854775806 by omega), rd54_at, h2, spec_in, Option.bind_some, List.all_cons, w64 (x := n - 1) (by omega) (by omega), edgeB, decide_eq_true_eq]
    by_cases c1 : 0 ≤ e.f0 ∧ e.f0 ≤ n - 1
    · simp only [if_pos c1, decide_eq_true c1, Bool.true_and]
      by_cases c2 : 0 ≤ e.f1 ∧ e.f1 ≤ n - 1
      · simp only [if_pos c2, decide_eq_true c2, Bool.true_and]
        by_cases c3 : e.f0 = e.f1
        · simp only [if_pos c3, decide_eq_true c3, Bool.not_true, Bool.false_and]; exact ev_some
        · simp only [if_neg c3, decide_eq_false c3, Bool.not_false, Bool.true_and]
          by_cases c4 : 1 ≤ e.f2 ∧ e.f2 ≤ 100000
          · simp only [if_pos c4, decide_eq_true c4, Bool.true_and]
            by_cases c5 : 1 ≤ e.f3 ∧ e.f3 ≤ 90
            · simp only [if_pos c5, decide_eq_true c5, Bool.true_and]; exact hi
            · simp only [if_neg c5, decide_eq_false c5, Bool.false_and]; exact ev_some
          · simp only [if_neg c4, decide_eq_false c4, Bool.false_and]; exact ev_some
      · simp only [if_neg c2, decide_eq_false c2, Bool.false_and]; exact ev_some
    · simp only [if_neg c1, decide_eq_false c1, Bool.false_and]; exact ev_some
theorem spec_net_ev (n : Int) (es : List S54) (hn : es.length ≤ 2000000) : Ev (fun k => spec_NetOk.f k n es) (netB n es) := by
  unfold spec_NetOk.f netB
  simp only [spec_in, Option.bind_some, decide_eq_true_eq]
  by_cases c1 : 1 ≤ n ∧ n ≤ 30
  · simp only [if_pos c1, decide_eq_true c1, Bool.true_and]
    by_cases c2 : (es.length : Int) > 60
    · simp only [decide_eq_true c2]
      rw [decide_eq_false (show ¬ es.length ≤ 60 by omega), Bool.false_and]
      exact Ev.step (fun k => by rw [spec_NetOk.j0]) (by simpa using ev_some)
    · simp only [decide_eq_false c2]
      rw [decide_eq_true (show es.length ≤ 60 by omega), Bool.true_and]
      refine Ev.step (fun k => by rw [spec_NetOk.j0]) ?_
      simp only [Bool.false_eq_true, if_false]
      exact spec_net_loop n c1 es hn es 0 rfl (by omega)
  · simp only [if_neg c1, decide_eq_false c1, Bool.false_and]
    exact Ev.step (fun k => by rw [spec_NetOk.j0]) (by simpa using ev_some)
theorem spec_cut_loop (n : Int) (es : List S54) (hn : es.length ≤ 2000000) (a : Int) : ∀ (rest : List S54) (j : Nat) (acc : List S54), es.drop j = rest → j ≤ es.length → acc.length ≤ j → Ev (fun k => spec_Cut.l0 k a (j : Int) n es n acc) (n, acc ++ dropL a j rest) := by
  intro rest
  induction rest with
  | nil =>
    intro j acc h hl _
    have := drop_nil h
    refine Ev.step (fun k => by rw [spec_Cut.l0]) ?_
    simp only [if_neg (show ¬ (j : Int) < (es.length : Int) by omega), dropL, List.append_nil]
    exact ev_some
  | cons e rest ih =>
    intro j acc h hl ha
    obtain ⟨h1, h2, h3⟩ := drop_cons h
    refine Ev.step (fun k => by rw [spec_Cut.l0]) ?_
    simp only [if_pos (show (j : Int) < (es.length : Int) by omega), if_pos (show 0 ≤ (j : Int) by omega), rd54_at, h2, nat_w (show j ≤ 9223372036854775806 by omega), if_pos (show acc.length < 4398046511104 by omega), dropL]
    by_cases c : (j : Int) = a
    · simp only [if_pos c, List.nil_append]
      exact ih (j + 1) acc h3 (by omega) (by omega)
    · simp only [if_neg c]
      have := ih (j + 1) (acc ++ [e]) h3 (by omega) (by simp; omega)
      rw [List.append_assoc] at this
      exact this
theorem spec_cut_ev (n : Int) (es : List S54) (he : es.length ≤ 2000000) (a : Int) : Ev (fun k => spec_Cut.f k n es a) (cutR n es a) := by
  unfold spec_Cut.f cutR
  have hno : ∀ r, r = (0, []) → Ev (fun k => spec_Cut.j0 k a true n es) r := fun r hr => by
    rw [hr]; exact Ev.step (fun k => by rw [spec_Cut.j0]) (by simpa using ev_some)
  refine Ev.bind (spec_net_ev n es he) ?_
  by_cases c0 : netB n es = true
  · simp only [if_pos c0, spec_in, w64 (x := (es.length : Int) - 1) (by omega) (by omega), Option.bind_some]
    by_cases c1 : 0 ≤ a ∧ a ≤ (es.length : Int) - 1
    · simp only [c0, decide_eq_true c1, Bool.not_true, if_pos (show (True : Prop) ∧ (0 ≤ a ∧ a ≤ (es.length : Int) - 1) from ⟨trivial, c1⟩)]
      refine Ev.step (fun k => by rw [spec_Cut.j0]) ?_
      simp only [Bool.false_eq_true, if_false]
      have h := spec_cut_loop n es he a es 0 [] rfl (by omega) (by simp)
      have e := dropL_eq es 0 a.toNat
      rw [show ((0 + a.toNat : Nat) : Int) = a by omega] at e
      rw [e, List.nil_append] at h
      exact h
    · simp only [decide_eq_false c1, Bool.not_false]
      exact hno _ (by rw [if_neg (fun h => c1 h.2)])
  · simp only [if_neg c0]
    exact hno _ (by rw [if_neg (fun h => c0 h.1)])
theorem impl_without {n : Int} {es : List S54} (he : es.length ≤ 2000000) (a : Int) (h0 : 0 ≤ a) (h1 : a < (es.length : Int)) : impl_Net_without.f n es a = some (n, cutL es a.toNat) := by
  unfold impl_Net_without.f
  rw [w64 (x := a + 1) (by omega) (by omega)]
  have e1 : (es.take a.toNat).length ≤ 2000000 := by rw [List.length_take]; omega
  have e2 : (es.drop (a + 1).toNat).length ≤ 2000000 := by rw [List.length_drop]; omega
  simp only [Option.bind_some, if_pos h0, if_pos (show a ≤ (es.length : Int) by omega), List.length_nil, List.nil_append, if_pos (show 0 + (es.take a.toNat).length < 4398046511104 by omega), if_pos (show 0 ≤ a + 1 by omega), if_pos (show a + 1 ≤ (es.length : Int) by omega), if_pos (show (es.take a.toNat).length + (es.drop (a + 1).toNat).length < 4398046511104 by omega)]
  unfold cutL
  rw [show (a + 1).toNat = a.toNat + 1 by omega]
theorem impl_in (x lo hi : Int) : impl_between.f x lo hi = some (decide (lo ≤ x ∧ x ≤ hi)) := by
  unfold impl_between.f
  by_cases h : x ≥ lo
  · have h' : lo ≤ x := h
    simp [h, h']
  · have h' : ¬ lo ≤ x := h
    simp [h, h']
theorem impl_node (n : Int) (hn1 : 1 ≤ n ∧ n ≤ 30) (es : List S54) (a : Int) : impl_Net_node.f n es a = some (decide (0 ≤ a ∧ a ≤ n - 1)) := by
  unfold impl_Net_node.f
  rw [w64 (x := n - 1) (by omega) (by omega), impl_in]; rfl
theorem impl_net_loop (n : Int) (hn1 : 1 ≤ n ∧ n ≤ 30) (es : List S54) (hn : es.length ≤ 2000000) : ∀ (rest : List S54) (j : Nat), es.drop j = rest → j ≤ es.length → Ev (fun k => impl_NetOk.l0 k es (es.length : Int) (j : Int) n es) (rest.all (edgeB n)) := by
  intro rest
  induction rest with
  | nil =>
    intro j h hl
    have := drop_nil h
    refine Ev.step (fun k => by rw [impl_NetOk.l0]) ?_
    simp only [if_neg (show ¬ (j : Int) < (es.length : Int) by omega), List.all_nil]
    exact ev_some
  | cons e rest ih =>
    intro j h hl
    obtain ⟨h1, h2, h3⟩ := drop_cons h
    have hi := ih (j + 1) h3 (by omega)
    refine Ev.step (fun k => by rw [impl_NetOk.l0]) ?_
    simp only [if_pos (show (j : Int) < (es.length : Int) by omega), if_pos (show 0 ≤ (j : Int) by omega), nat_w (show j ≤ 9223372036854775806 by omega), rd54_at, h2, impl_node n hn1, impl_in, Option.bind_some, List.all_cons, edgeB, decide_eq_true_eq]
    by_cases c1 : 0 ≤ e.f0 ∧ e.f0 ≤ n - 1
    · simp only [if_pos c1, decide_eq_true c1, Bool.true_and]
      by_cases c2 : 0 ≤ e.f1 ∧ e.f1 ≤ n - 1
      · simp only [if_pos c2, decide_eq_true c2, Bool.true_and]
        by_cases c3 : e.f0 = e.f1
        · simp only [if_pos c3, decide_eq_true c3, Bool.not_true, Bool.false_and]; exact ev_some
        · simp only [if_neg c3, decide_eq_false c3, Bool.not_false, Bool.true_and]
          by_cases c4 : 1 ≤ e.f2 ∧ e.f2 ≤ 100000
          · simp only [if_pos c4, decide_eq_true c4, Bool.true_and]
            by_cases c5 : 1 ≤ e.f3 ∧ e.f3 ≤ 90
            · simp only [if_pos c5, decide_eq_true c5, Bool.true_and]; exact hi
            · simp only [if_neg c5, decide_eq_false c5, Bool.false_and]; exact ev_some
          · simp only [if_neg c4, decide_eq_false c4, Bool.false_and]; exact ev_some
      · simp only [if_neg c2, decide_eq_false c2, Bool.false_and]; exact ev_some
    · simp only [if_neg c1, decide_eq_false c1, Bool.false_and]; exact ev_some
theorem impl_net_ev (n : Int) (es : List S54) (hn : es.length ≤ 2000000) : Ev (fun k => impl_NetOk.f k n es) (netB n es) := by
  unfold impl_NetOk.f netB
  simp only [impl_in, Option.bind_some, decide_eq_true_eq]
  by_cases c1 : 1 ≤ n ∧ n ≤ 30
  · simp only [if_pos c1, decide_eq_true c1, Bool.true_and]
    by_cases c2 : (es.length : Int) > 60
    · simp only [decide_eq_true c2]
      rw [decide_eq_false (show ¬ es.length ≤ 60 by omega), Bool.false_and]
      exact Ev.step (fun k => by rw [impl_NetOk.j0]) (by simpa using ev_some)
    · simp only [decide_eq_false c2]
      rw [decide_eq_true (show es.length ≤ 60 by omega), Bool.true_and]
      refine Ev.step (fun k => by rw [impl_NetOk.j0]) ?_
      simp only [Bool.false_eq_true, if_false]
      exact impl_net_loop n c1 es hn es 0 rfl (by omega)
  · simp only [if_neg c1, decide_eq_false c1, Bool.false_and]
    exact Ev.step (fun k => by rw [impl_NetOk.j0]) (by simpa using ev_some)
theorem impl_cut_ev (n : Int) (es : List S54) (he : es.length ≤ 2000000) (a : Int) : Ev (fun k => impl_Cut.f k n es a) (cutR n es a) := by
  unfold impl_Cut.f cutR
  refine Ev.bind (impl_net_ev n es he) ?_
  by_cases c0 : netB n es = true
  · simp only [if_pos c0, impl_in, w64 (x := (es.length : Int) - 1) (by omega) (by omega), Option.bind_some, decide_eq_true_eq]
    by_cases c1 : 0 ≤ a ∧ a ≤ (es.length : Int) - 1
    · simp only [if_pos c1, c0, if_pos (show (True : Prop) ∧ (0 ≤ a ∧ a ≤ (es.length : Int) - 1) from ⟨trivial, c1⟩), impl_without he a c1.1 (by omega), Option.bind_some]
      exact ev_some
    · simp only [if_neg c1, if_neg (fun h : netB n es = true ∧ (0 ≤ a ∧ a ≤ (es.length : Int) - 1) => c1 h.2)]
      exact ev_some
  · simp only [if_neg c0, if_neg (fun h : netB n es = true ∧ (0 ≤ a ∧ a ≤ (es.length : Int) - 1) => c0 h.1)]
    exact ev_some
theorem rd81_at (xs : List S81) (j : Nat) : rd_T81 xs (j : Int) = xs.getD j z81 := by unfold rd_T81; rw [Int.toNat_natCast]
def ce (b : S81) : S54 := ⟨b.f0, b.f1, b.f2, b.f3⟩
theorem toEdgeS_ev (xs : List S81) (hn : xs.length ≤ 2000000) : Ev (fun k => laws_toEdgeS.f k xs) (xs.map ce) := by
  unfold laws_toEdgeS.f
  simp only [if_pos (show 0 ≤ (xs.length : Int) by omega), if_pos (show ((xs.length : Int)).toNat ≤ 8796093022208 by omega)]
  have h := copy_loop ce z81 xs (fun k acc i => laws_toEdgeS.l0 k xs acc i) (by omega) (fun k acc j => by
    simp only [laws_toEdgeS.l0, laws_toEdge.f, Option.bind_some, rd81_at, Int.toNat_natCast, if_pos (show 0 ≤ (j : Int) by omega), Int.ofNat_lt, ce]) xs.length 0 (List.replicate xs.length z54) (by omega) (by omega) (by simp) (by simp)
  simpa using h
theorem toNet_ev (n : Int) (xs : List S81) (hn : xs.length ≤ 2000000) : Ev (fun k => laws_toNet.f k n xs) (n, xs.map ce) := by
  unfold laws_toNet.f
  exact Ev.bind (toEdgeS_ev xs hn) ev_some
theorem eqEdgeS_ev (xs : List S54) (hn : xs.length ≤ 2000000) : Ev (fun k => laws_eqEdgeS.f k xs xs) true := by
  unfold laws_eqEdgeS.f
  simp only [if_true]
  refine all_loop xs.length (fun k i => laws_eqEdgeS.l0 k xs xs i) (by omega) (fun k j hj => ?_) (fun k => ?_) xs.length 0 (by omega) (by omega)
  · simp only [laws_eqEdgeS.l0, if_pos (show (j : Int) < (xs.length : Int) by omega), if_pos (show 0 ≤ (j : Int) by omega), laws_eqEdge.f, if_true, Option.bind_some]
  · simp only [laws_eqEdgeS.l0, if_neg (Int.lt_irrefl _)]
theorem eqNet_ev (n : Int) (xs : List S54) (hn : xs.length ≤ 2000000) : Ev (fun k => laws_eqNet.f k n xs n xs) true := by
  unfold laws_eqNet.f
  simp only [if_true]
  refine Ev.bind (eqEdgeS_ev xs hn) ?_
  simp only [if_true]
  exact ev_some
theorem szNet_eq (n : Int) (xs : List S81) (hn : xs.length ≤ 9223372036854775807) : ∃ r, laws_szNet.f n xs 1048576 = some r ∧ (r < 0 ∨ xs.length ≤ 1048576) := by
  unfold laws_szNet.f laws_szEdgeS.f
  rw [w64 (x := (1048576 : Int) - (xs.length : Int)) (by omega) (by omega)]
  by_cases c : (1048576 : Int) - (xs.length : Int) < 0
  · simp only [if_pos c, Option.bind_some, if_pos (show (-1 : Int) < 0 by decide)]; exact ⟨_, rfl, Or.inl (by decide)⟩
  · simp only [if_neg c, Option.bind_some]; exact ⟨_, rfl, Or.inr (by omega)⟩
def markE (s : Int) (_ : S54) : S54 := ⟨s, s + 1, s + 2, s + 3⟩
theorem markEdgeS_ev (xs : List S54) (hn : xs.length ≤ 2000000) (s : Nat) (hs : s ≤ 20000000) : Ev (fun k => laws_markEdgeS.f k xs (s : Int)) (((s + 4 * xs.length : Nat) : Int), marked 4 markE s xs) := by
  unfold laws_markEdgeS.f
  have h := mark_loop 4 (by omega) markE z54 xs (fun k acc s i => laws_markEdgeS.l0 k acc s i) hn s hs
    (fun k acc s j h1 h2 h3 => by
      have e1 : wrap64 ((s : Int) + 1) = (s : Int) + 1 := w64 (by omega) (by omega)
      have e2 : wrap64 ((s : Int) + 1 + 1) = (s : Int) + 2 := by rw [w64 (by omega) (by omega)]; omega
      have e3 : wrap64 ((s : Int) + 2 + 1) = (s : Int) + 3 := by rw [w64 (by omega) (by omega)]; omega
      have e4 : wrap64 ((s : Int) + 3 + 1) = ((s + 4 : Nat) : Int) := by rw [w64 (by omega) (by omega)]; omega
      have hj : j < acc.length := by omega
      have g : ∀ (v : S54) (l : List S54), j < l.length → (l.set j v).getD j z54 = v := fun v l hl => by rw [List.getD_eq_getElem?_getD, List.getElem?_set_self hl]; rfl
      simp only [laws_markEdgeS.l0, h1, if_pos (show (j : Int) < (xs.length : Int) by omega), if_pos (show 0 ≤ (j : Int) by omega), Int.toNat_natCast, markE, e1, e2, e3, e4, rd54_at, Option.bind_some]
      simp only [g _ _ (show j < acc.length from hj), g _ _ (show j < (acc.set j _).length by simpa using hj), g _ _ (show j < ((acc.set j _).set j _).length by simpa using hj), List.set_set])
    (fun k acc s h1 => by simp [laws_markEdgeS.l0, h1]) xs.length 0 xs (by omega) (by omega) rfl (by simp) rfl
  simpa using h
theorem markNet_ev (n : Int) (xs : List S54) (hn : xs.length ≤ 2000000) (s : Nat) (hs : s ≤ 20000000) : Ev (fun k => laws_markNet.f k n xs (s : Int)) (((s + 4 * xs.length : Nat) : Int), marked 4 markE s xs) := by
  unfold laws_markNet.f
  exact Ev.bind (markEdgeS_ev xs hn s hs) ev_some
theorem heldEdgeS_ev (xs : List S54) (hn : xs.length ≤ 2000000) (s : Nat) (hs : s ≤ 20000000) : Ev (fun k => laws_heldEdgeS.f k (marked 4 markE s xs) (s : Int)) ((s + 4 * xs.length : Nat) : Int) := by
  unfold laws_heldEdgeS.f
  have hl := marked_length 4 markE s xs
  have h := held_loop 4 (by omega) xs.length (fun k s' i => laws_heldEdgeS.l0 k (marked 4 markE s xs) s' i) hn s hs
    (fun k j hj => by
      have hm := marked_at 4 markE s xs j z54 hj
      have e1 : wrap64 (((s + 4 * j : Nat) : Int) + 1) = ((s + 4 * j : Nat) : Int) + 1 := w64 (by omega) (by omega)
      have e2 : wrap64 (((s + 4 * j : Nat) : Int) + 1 + 1) = ((s + 4 * j : Nat) : Int) + 2 := by rw [w64 (by omega) (by omega)]; omega
      have e3 : wrap64 (((s + 4 * j : Nat) : Int) + 2 + 1) = ((s + 4 * j : Nat) : Int) + 3 := by rw [w64 (by omega) (by omega)]; omega
      have e4 : wrap64 (((s + 4 * j : Nat) : Int) + 3 + 1) = ((s + 4 * j + 4 : Nat) : Int) := by rw [w64 (by omega) (by omega)]; omega
      simp only [laws_heldEdgeS.l0, hl, if_pos (show (j : Int) < (xs.length : Int) by omega), if_pos (show 0 ≤ (j : Int) by omega), rd_T54, Int.toNat_natCast, List.getD_eq_getElem?_getD, hm, Option.getD_some, markE, e1, e2, e3, e4]
      rw [if_pos (by omega), if_pos (by omega), if_pos (by omega), if_pos (by omega)])
    (fun k s' => by simp [laws_heldEdgeS.l0, hl]) xs.length 0 (by omega) (by omega)
  simpa using h
theorem heldNet_ev (n : Int) (xs : List S54) (hn : xs.length ≤ 2000000) (s : Nat) (hs : s ≤ 20000000) : Ev (fun k => laws_heldNet.f k n (marked 4 markE s xs) (s : Int)) ((s + 4 * xs.length : Nat) : Int) := by
  unfold laws_heldNet.f
  refine Ev.bind (heldEdgeS_ev xs hn s hs) ?_
  simp only [if_neg (show ¬ ((s + 4 * xs.length : Nat) : Int) < 0 by omega)]
  exact ev_some
theorem FnExactCut : laws_FnExactCut.Pure := by
  intro n l a _ hl _
  refine Ev.rounds ?_
  unfold laws_FnExactCut.f
  have hm : maxLen ≤ 9223372036854775807 := by decide
  obtain ⟨r, hr, hc⟩ := szNet_eq n l (by omega)
  simp only [hr, Option.bind_some]
  by_cases c : r < 0
  · simp only [if_pos c]; exact ev_some
  · simp only [if_neg c]
    have hn : l.length ≤ 2000000 := by omega
    have hn2 : (l.map ce).length ≤ 2000000 := by rw [List.length_map]; exact hn
    have hp : (cutR n (l.map ce) a).2.length ≤ 2000000 := by have := cutR_length n (l.map ce) a; omega
    refine Ev.bind (toNet_ev n l hn) (Ev.bind (spec_cut_ev n _ hn2 a) (Ev.bind (toNet_ev n l hn) (Ev.bind (impl_cut_ev n _ hn2 a) (Ev.bind (eqNet_ev _ _ hp) ?_))))
    simp only [if_true]
    refine Ev.bind (toNet_ev n l hn) (Ev.bind (eqNet_ev n _ hn2) ?_)
    simp only [if_true]
    refine Ev.bind (markNet_ev n _ hn2 1 (by omega)) ?_
    simp only [if_neg (show ¬ ((1 + 4 * (l.map ce).length : Nat) : Int) < 0 by omega)]
    refine Ev.bind (eqNet_ev _ _ hp) ?_
    simp only [if_true]
    refine Ev.bind (markNet_ev _ _ hp 1 (by omega)) (Ev.bind (heldNet_ev _ _ hp 1 (by omega)) ?_)
    simp only [if_neg (show ¬ ((1 + 4 * (cutR n (l.map ce) a).2.length : Nat) : Int) < 0 by omega), if_true]
    refine Ev.bind (toNet_ev n l hn) (Ev.bind (impl_cut_ev n _ hn2 a) (Ev.bind (eqNet_ev _ _ hp) ?_))
    simp only [if_true]
    refine Ev.bind (heldNet_ev _ _ hp 1 (by omega)) ?_
    simp only [if_neg (show ¬ ((1 + 4 * (cutR n (l.map ce) a).2.length : Nat) : Int) < 0 by omega), if_true]
    exact ev_some

end Go.Proofs.Ytdeleoghaabjlaa.Pure
