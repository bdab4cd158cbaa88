/- The program's Aspects returns what the reference's returns, for all lists of blocks and aspects beyond. -/
import Derived.Test.YtcceefojngmpjaaRowFnExactAspects
namespace Go.Proofs.Ytcceefojngmpjaa.Pure
open Go.RowKit Go.Proofs.Ytcceefojngmpjaa.PFnExactAspects Go.Proofs.YtcceefojngmpjaaW.PrintWords Go.Proofs.YtcceefojngmpjaaW.PrintLast Go.Proofs.YtcceefojngmpjaaW.PrintMore
set_option linter.unusedVariables false
set_option linter.unusedSimpArgs false
theorem w64 {x : Int} (h0 : -9223372036854775808 ≤ x) (h1 : x ≤ 9223372036854775807) : wrap64 x = x := by unfold wrap64; omega
theorem ev_k {α : Type} {g : Nat → Option α} {r : α} (h : ∀ k, g k = some r) : Ev g r := ⟨0, fun k _ => h k⟩
theorem ev_some {α : Type} {r : α} : Ev (fun _ => some r) r := Ev.now r
theorem wf_i64 {x : Int} (h : (Lit.int .i64 x).wf = true) : -9223372036854775808 ≤ x ∧ x ≤ 9223372036854775807 := by
  simp only [Lit.wf, Bool.and_eq_true, decide_eq_true_eq] at h
  have h1 : IntKind.min .i64 = -9223372036854775808 := by decide
  have h2 : IntKind.max .i64 = 9223372036854775807 := by decide
  omega
theorem wf_u8 {x : Int} (h : (Lit.int .u8 x).wf = true) : 0 ≤ x ∧ x ≤ 255 := by
  simp only [Lit.wf, Bool.and_eq_true, decide_eq_true_eq] at h
  have h1 : IntKind.min .u8 = 0 := by decide
  have h2 : IntKind.max .u8 = 255 := by decide
  omega
theorem spec_in (x lo hi : Int) : spec_l01In.f x lo hi = some (decide (lo ≤ x ∧ x ≤ hi)) := by
  unfold spec_l01In.f
  by_cases h : lo ≤ x <;> simp [h]
theorem impl_in (x lo hi : Int) : impl_between.f x lo hi = some (decide (lo ≤ x ∧ x ≤ hi)) := by
  unfold impl_between.f
  by_cases h : x ≥ lo
  · have h' : lo ≤ x := h
    simp [h, h']
  · have h' : ¬ lo ≤ x := h
    simp [h, h']
/-! Loops over lists, whatever the elements. -/
theorem nat_w {j : Nat} (h : j ≤ 9223372036854775806) : wrap64 ((j : Int) + 1) = ((j + 1 : Nat) : Int) := by rw [w64 (by omega) (by omega)]; omega
theorem set_take {α : Type} {acc ys : List α} {j : Nat} (hl : acc.length = ys.length) (ht : acc.take j = ys.take j) (hj : j < ys.length) {v : α} (hv : ys[j]? = some v) : (acc.set j v).take (j + 1) = ys.take (j + 1) := by
  apply List.ext_getElem?
  intro i
  by_cases hi : i < j + 1
  · rw [List.getElem?_take_of_lt hi, List.getElem?_take_of_lt hi]
    by_cases e : i = j
    · subst e
      rw [List.getElem?_set_self (by omega), hv]
    · rw [List.getElem?_set_ne (by omega)]
      have h1 := congrArg (fun l => l[i]?) ht
      simp only [List.getElem?_take_of_lt (show i < j by omega)] at h1
      exact h1
  · rw [List.getElem?_eq_none (by simp; omega), List.getElem?_eq_none (by simp; omega)]
theorem getD_some {α : Type} {xs : List α} {j : Nat} (h : j < xs.length) (d : α) : xs[j]? = some (xs.getD j d) := by
  rw [List.getD_eq_getElem?_getD, List.getElem?_eq_getElem h]; rfl
/-- A loop that writes g of each element of xs into a row of the same length. -/
theorem copy_loop {α β : Type} (g : β → α) (d : β) (xs : List β) (L : Nat → List α → Int → Option (List α)) (hn : xs.length ≤ 9223372036854775806)
    (hs : ∀ k acc (j : Nat), L (k + 1) acc (j : Int) = if j < xs.length then (if j < acc.length then L k (acc.set j (g (xs.getD j d))) (wrap64 ((j : Int) + 1)) else none) else some acc)
    (m : Nat) : ∀ (j : Nat) (acc : List α), xs.length - j = m → j ≤ xs.length → acc.length = xs.length → acc.take j = (xs.map g).take j → Ev (fun k => L k acc (j : Int)) (xs.map g) := by
  induction m with
  | zero =>
    intro j acc h0 h1 h2 h3
    refine Ev.step (fun k => hs k acc j) ?_
    simp only [if_neg (show ¬ j < xs.length by omega)]
    have e : acc = xs.map g := by
      have h4 : acc.take j = acc := List.take_of_length_le (by omega)
      have h5 : (xs.map g).take j = xs.map g := List.take_of_length_le (by simp; omega)
      rw [← h4, h3, h5]
    rw [e]
    exact ev_some
  | succ m ih =>
    intro j acc h0 h1 h2 h3
    refine Ev.step (fun k => hs k acc j) ?_
    simp only [if_pos (show j < xs.length by omega), if_pos (show j < acc.length by omega)]
    rw [nat_w (by omega)]
    refine ih (j + 1) _ (by omega) (by omega) (by simpa using h2) ?_
    refine set_take (by simpa using h2) h3 (by simp; omega) ?_
    rw [List.getElem?_map, getD_some (show j < xs.length by omega) d]
    rfl
/-- A loop that asks each index, and goes on where the answer is yes. -/
theorem all_loop (n : Nat) (L : Nat → Int → Option Bool) (hn : n ≤ 9223372036854775806) (hs : ∀ k (j : Nat), j < n → L (k + 1) (j : Int) = L k (wrap64 ((j : Int) + 1))) (he : ∀ k, L (k + 1) (n : Int) = some true)
    (m : Nat) : ∀ j : Nat, n - j = m → j ≤ n → Ev (fun k => L k (j : Int)) true := by
  induction m with
  | zero =>
    intro j h0 h1
    obtain rfl : j = n := by omega
    exact Ev.step (fun k => he k) ev_some
  | succ m ih =>
    intro j h0 h1
    refine Ev.step (fun k => hs k j (by omega)) ?_
    rw [nat_w (by omega)]
    exact ih (j + 1) (by omega) (by omega)
/-- The elements one behind the other, each turned by f with a number that goes on by c. -/
def marked {α : Type} (c : Int) (f : Int → α → α) : Int → List α → List α
  | _, [] => []
  | s, x :: xs => f s x :: marked c f (s + c) xs
theorem marked_length {α : Type} (c : Int) (f : Int → α → α) : ∀ (s : Int) (xs : List α), (marked c f s xs).length = xs.length
  | _, [] => rfl
  | s, x :: xs => by simp [marked, marked_length c f (s + c) xs]
theorem marked_at {α : Type} (c : Int) (f : Int → α → α) : ∀ (s : Int) (xs : List α) (j : Nat) (d : α), j < xs.length → (marked c f s xs)[j]? = some (f (s + c * j) (xs.getD j d))
  | _, [], j, d, h => by simp at h
  | s, x :: xs, 0, d, _ => by simp [marked]
  | s, x :: xs, j + 1, d, h => by
    have := marked_at c f (s + c) xs j d (by simpa using h)
    simp only [marked, List.getElem?_cons_succ, List.getD_cons_succ]
    rw [this]
    congr 2
    rw [Int.natCast_succ, Int.mul_add]; omega
/-- A loop that marks a row. -/
theorem mark_loop {α : Type} (c : Nat) (hc : c ≤ 8) (f : Int → α → α) (d : α) (xs : List α) (L : Nat → List α → Int → Int → Option (Int × List α)) (hn : xs.length ≤ 2000000) (s0 : Nat) (hs0 : s0 ≤ 20000000)
    (hs : ∀ k acc (s : Nat) (j : Nat), acc.length = xs.length → s ≤ 40000000 → j < xs.length → L (k + 1) acc (s : Int) (j : Int) = L k (acc.set j (f (s : Int) (acc.getD j d))) ((s + c : Nat) : Int) (wrap64 ((j : Int) + 1)))
    (he : ∀ k acc (s : Int), acc.length = xs.length → L (k + 1) acc s (xs.length : Int) = some (s, acc))
    (m : Nat) : ∀ (j : Nat) (acc : List α), xs.length - j = m → j ≤ xs.length → acc.length = xs.length → acc.take j = (marked c f s0 xs).take j → acc.drop j = xs.drop j → Ev (fun k => L k acc ((s0 + c * j : Nat) : Int) (j : Int)) (((s0 + c * xs.length : Nat) : Int), marked c f s0 xs) := by
  induction m with
  | zero =>
    intro j acc h0 h1 h2 h3 _
    obtain rfl : j = xs.length := by omega
    refine Ev.step (fun k => he k acc _ h2) ?_
    have e : acc = marked c f s0 xs := by
      have h4 : acc.take xs.length = acc := List.take_of_length_le (by omega)
      have h5 : (marked c f s0 xs).take xs.length = marked c f s0 xs := List.take_of_length_le (by rw [marked_length]; omega)
      rw [← h4, h3, h5]
    rw [e]
    exact ev_some
  | succ m ih =>
    intro j acc h0 h1 h2 h3 h4
    have hb : c * j ≤ 8 * 2000000 := Nat.mul_le_mul hc (by omega)
    refine Ev.step (fun k => hs k acc _ j h2 (by omega) (by omega)) ?_
    rw [nat_w (by omega), show s0 + c * j + c = s0 + c * (j + 1) by rw [Nat.mul_add]; omega]
    have hg : acc.getD j d = xs.getD j d := by
      have h5 := congrArg (fun l => l[0]?) h4
      simp only [List.getElem?_drop, Nat.add_zero] at h5
      rw [List.getD_eq_getElem?_getD, List.getD_eq_getElem?_getD, h5]
    refine ih (j + 1) _ (by omega) (by omega) (by simpa using h2) ?_ ?_
    · refine set_take (by rw [marked_length]; exact h2) h3 (by rw [marked_length]; omega) ?_
      rw [marked_at c f s0 xs j d (by omega), hg]
      simp
    · rw [List.drop_set_of_lt (by omega), ← List.drop_drop, h4, List.drop_drop]
/-- A loop that looks whether a row is marked so. -/
theorem held_loop (c : Nat) (hc : c ≤ 8) (n : Nat) (L : Nat → Int → Int → Option Int) (hn : n ≤ 2000000) (s0 : Nat) (hs0 : s0 ≤ 20000000)
    (hs : ∀ k (j : Nat), j < n → L (k + 1) ((s0 + c * j : Nat) : Int) (j : Int) = L k ((s0 + c * j + c : Nat) : Int) (wrap64 ((j : Int) + 1)))
    (he : ∀ k (s : Int), L (k + 1) s (n : Int) = some s)
    (m : Nat) : ∀ j : Nat, n - j = m → j ≤ n → Ev (fun k => L k ((s0 + c * j : Nat) : Int) (j : Int)) (((s0 + c * n : Nat) : Int)) := by
  induction m with
  | zero =>
    intro j h0 h1
    obtain rfl : j = n := by omega
    exact Ev.step (fun k => he k _) ev_some
  | succ m ih =>
    intro j h0 h1
    refine Ev.step (fun k => hs k j (by omega)) ?_
    rw [nat_w (by omega), show s0 + c * j + c = s0 + c * (j + 1) by rw [Nat.mul_add]; omega]
    exact ih (j + 1) (by omega) (by omega)
theorem drop_cons {α : Type} {xs : List α} {j : Nat} {t : α} {rest : List α} (h : xs.drop j = t :: rest) : j < xs.length ∧ (∀ d, xs.getD j d = t) ∧ xs.drop (j + 1) = rest := by
  have hj : j < xs.length := by
    rcases Nat.lt_or_ge j xs.length with h1 | h1
    · exact h1
    · rw [List.drop_of_length_le h1] at h; cases h
  rw [List.drop_eq_getElem_cons hj] at h
  injection h with h1 h2
  exact ⟨hj, fun d => by rw [List.getD_eq_getElem?_getD, List.getElem?_eq_getElem hj, ← h1]; rfl, h2⟩
theorem drop_nil {α : Type} {xs : List α} {j : Nat} (h : xs.drop j = []) : xs.length ≤ j := by simpa using h
/-- How many are free from the head on. -/
def freeN : List Bool → Nat
  | [] => 0
  | true :: _ => 0
  | false :: xs => freeN xs + 1
theorem freeN_le : ∀ xs : List Bool, freeN xs ≤ xs.length
  | [] => by simp [freeN]
  | true :: xs => by simp [freeN]
  | false :: xs => by have := freeN_le xs; simp [freeN]; omega
/-- The aspect of the signal ahead of these blocks. -/
def asp (beyond : Int) : List Bool → Int
  | [] => beyond
  | true :: _ => 0
  | false :: xs => if asp beyond xs + 1 > 3 then 3 else asp beyond xs + 1
def aspL (beyond : Int) : List Bool → List Int
  | [] => []
  | b :: xs => asp beyond (b :: xs) :: aspL beyond xs
theorem aspL_length (beyond : Int) : ∀ xs, (aspL beyond xs).length = xs.length
  | [] => rfl
  | b :: xs => by simp [aspL, aspL_length beyond xs]
theorem asp_free (beyond : Int) (h0 : 0 ≤ beyond) (h3 : beyond ≤ 3) : ∀ xs : List Bool, asp beyond xs = if freeN xs = xs.length then (if (freeN xs : Int) + beyond > 3 then 3 else (freeN xs : Int) + beyond) else (if (freeN xs : Int) > 3 then 3 else (freeN xs : Int))
  | [] => by simp [asp, freeN]; omega
  | true :: xs => by simp [asp, freeN]
  | false :: xs => by
    have ih := asp_free beyond h0 h3 xs
    simp only [asp, freeN, List.length_cons]
    rw [ih]
    by_cases h : freeN xs = xs.length
    · simp only [if_pos h, if_pos (show freeN xs + 1 = xs.length + 1 by omega)]
      split <;> split <;> omega
    · simp only [if_neg h, if_neg (show ¬ freeN xs + 1 = xs.length + 1 by omega)]
      split <;> split <;> omega
theorem asp_bd (beyond : Int) (h0 : 0 ≤ beyond) (h3 : beyond ≤ 3) (xs : List Bool) : 0 ≤ asp beyond xs ∧ asp beyond xs ≤ 3 := by
  rw [asp_free beyond h0 h3]
  split <;> split <;> omega
theorem spec_free_loop (xs : List Bool) (hn : xs.length ≤ 2000000) (a : Nat) : ∀ (rest : List Bool) (j : Nat), xs.drop (a + j) = rest → a + j ≤ xs.length → Ev (fun k => spec_FreeFrom.l0 k xs (a : Int) (j : Int)) ((j + freeN rest : Nat) : Int) := by
  intro rest
  induction rest with
  | nil =>
    intro j h hl
    have := drop_nil h
    refine Ev.step (fun k => by rw [spec_FreeFrom.l0]) ?_
    rw [w64 (x := (a : Int) + j) (by omega) (by omega)]
    simp only [if_neg (show ¬ (a : Int) + j < (xs.length : Int) by omega)]
    exact ev_some
  | cons t rest ih =>
    intro j h hl
    obtain ⟨h1, h2, h3⟩ := drop_cons h
    refine Ev.step (fun k => by rw [spec_FreeFrom.l0]) ?_
    rw [w64 (x := (a : Int) + j) (by omega) (by omega), nat_w (by omega)]
    simp only [if_pos (show (a : Int) + j < (xs.length : Int) by omega), if_pos (show 0 ≤ (a : Int) + j by omega), rdOf, show ((a : Int) + j).toNat = a + j by omega, h2]
    cases t with
    | true => simpa [freeN] using ev_some
    | false =>
      have h4 := ih (j + 1) (by rw [← h3, Nat.add_assoc]) (by omega)
      simp only [freeN, Bool.false_eq_true, if_false]
      rw [show j + (freeN rest + 1) = j + 1 + freeN rest by omega]
      exact h4
theorem spec_free_ev (xs : List Bool) (hn : xs.length ≤ 100) (j : Nat) (hj : j < xs.length) : Ev (fun k => spec_FreeFrom.f k xs (j : Int)) ((freeN (xs.drop j) : Nat) : Int) := by
  unfold spec_FreeFrom.f
  simp only [if_neg (show ¬ (xs.length : Int) > 100 by omega), spec_in, Option.bind_some]
  rw [w64 (x := (xs.length : Int) - 1) (by omega) (by omega)]
  simp only [show (0 ≤ (j : Int) ∧ (j : Int) ≤ (xs.length : Int) - 1) by omega, and_self, decide_true, Bool.not_true]
  refine Ev.step (fun k => by rw [spec_FreeFrom.j0]) ?_
  simp only [Bool.false_eq_true, if_false]
  have h := spec_free_loop xs (by omega) j (xs.drop j) 0 rfl (by omega)
  simpa using h
theorem spec_asp_loop (xs : List Bool) (hn : xs.length ≤ 100) (b : Int) (h0 : 0 ≤ b) (h3 : b ≤ 3) : ∀ (rest : List Bool) (j : Nat) (acc : List Int), xs.drop j = rest → j ≤ xs.length → acc.length = j → Ev (fun k => spec_Aspects.l0 k xs b acc (j : Int)) (acc ++ aspL b rest) := by
  intro rest
  induction rest with
  | nil =>
    intro j acc h hj hl
    have := drop_nil h
    refine Ev.step (fun k => by rw [spec_Aspects.l0]) ?_
    simp only [if_neg (show ¬ (j : Int) < (xs.length : Int) by omega), aspL, List.append_nil]
    exact ev_some
  | cons t rest ih =>
    intro j acc h hj hl
    obtain ⟨h1, h2, hd⟩ := drop_cons h
    have hf := spec_free_ev xs hn j h1
    rw [h] at hf
    refine Ev.step (fun k => by rw [spec_Aspects.l0]) ?_
    simp only [if_pos (show (j : Int) < (xs.length : Int) by omega), nat_w (show j ≤ 9223372036854775806 by omega)]
    refine Ev.bind hf ?_
    have hle := freeN_le (t :: rest)
    have hlen : xs.length = j + (t :: rest).length := by rw [← h, List.length_drop]; omega
    have ha := asp_free b h0 h3 (t :: rest)
    rw [w64 (x := (j : Int) + (freeN (t :: rest) : Int)) (by omega) (by omega), w64 (x := (freeN (t :: rest) : Int) + b) (by omega) (by omega)]
    simp only [if_pos (show acc.length < 17592186044416 by omega)]
    have hgo := fun v => ih (j + 1) (acc ++ [v]) hd (by omega) (by simp; omega)
    have he : ∀ v, asp b (t :: rest) = v → acc ++ aspL b (t :: rest) = acc ++ [v] ++ aspL b rest := fun v hv => by rw [← hv]; simp [aspL]
    by_cases c1 : (j : Int) + (freeN (t :: rest) : Int) = (xs.length : Int)
    · rw [if_pos (by omega)] at ha
      simp only [if_pos c1]
      by_cases c2 : (freeN (t :: rest) : Int) + b > 3
      · rw [if_pos c2] at ha
        simp only [if_pos c2]
        rw [he _ ha]; exact hgo _
      · rw [if_neg c2] at ha
        simp only [if_neg c2]
        rw [he _ ha]; exact hgo _
    · rw [if_neg (by omega)] at ha
      simp only [if_neg c1]
      by_cases c2 : (freeN (t :: rest) : Int) > 3
      · rw [if_pos c2] at ha
        simp only [if_pos c2]
        rw [he _ ha]; exact hgo _
      · rw [if_neg c2] at ha
        simp only [if_neg c2]
        rw [he _ ha]; exact hgo _
/-- What Aspects answers. -/
def aspR (xs : List Bool) (b : Int) : List Int := if xs.length ≤ 100 ∧ 0 ≤ b ∧ b ≤ 3 then aspL b xs else []
theorem spec_aspects_ev (xs : List Bool) (hn : xs.length ≤ 2000000) (b : Int) : Ev (fun k => spec_Aspects.f k xs b) (aspR xs b) := by
  unfold spec_Aspects.f aspR
  by_cases h : xs.length ≤ 100
  · simp only [if_neg (show ¬ (xs.length : Int) > 100 by omega), spec_in, Option.bind_some]
    refine Ev.step (fun k => by rw [spec_Aspects.j0]) ?_
    by_cases hb : 0 ≤ b ∧ b ≤ 3
    · have h2 := spec_asp_loop xs h b hb.1 hb.2 xs 0 [] (by simp) (by omega) rfl
      simpa [hb, h] using h2
    · simpa [hb] using ev_some
  · simp only [if_pos (show (xs.length : Int) > 100 by omega), h, false_and, if_false]
    exact Ev.step (fun k => by rw [spec_Aspects.j0]) (by simpa using ev_some)
theorem aspL_drop (b : Int) : ∀ (xs : List Bool) (j : Nat), (aspL b xs).drop j = aspL b (xs.drop j)
  | [], j => by simp [aspL]
  | x :: xs, 0 => by simp
  | x :: xs, j + 1 => by simp [aspL, aspL_drop b xs j]
theorem impl_asp_loop (xs : List Bool) (hn : xs.length ≤ 100) (b : Int) (h0 : 0 ≤ b) (h3 : b ≤ 3) : ∀ (j : Nat) (acc : List Int), j ≤ xs.length → acc.length = xs.length → acc.drop j = aspL b (xs.drop j) → Ev (fun k => impl_aspects.l0 k xs (asp b (xs.drop j)) acc ((j : Int) - 1)) (aspL b xs) := by
  intro j
  induction j with
  | zero =>
    intro acc hj hl hd
    refine Ev.step (fun k => by rw [impl_aspects.l0]) ?_
    simp only [if_neg (show ¬ (((0 : Nat) : Int) - 1 ≥ 0) by omega)]
    have e : acc = aspL b xs := by simpa using hd
    rw [e]
    exact ev_some
  | succ j ih =>
    intro acc hj hl hd
    refine Ev.step (fun k => by rw [impl_aspects.l0]) ?_
    rw [show (((j + 1 : Nat) : Int) - 1) = (j : Int) by omega, w64 (x := (j : Int) - 1) (by omega) (by omega)]
    have hx : xs.drop j = xs[j]'(by omega) :: xs.drop (j + 1) := List.drop_eq_getElem_cons (by omega)
    have hr : rdOf false xs (j : Int) = xs[j]'(by omega) := by
      unfold rdOf
      rw [Int.toNat_natCast, List.getD_eq_getElem?_getD, List.getElem?_eq_getElem (by omega)]; rfl
    have hbd := asp_bd b h0 h3 (xs.drop (j + 1))
    have hset : ∀ v, asp b (xs.drop j) = v → (acc.set j v).drop j = aspL b (xs.drop j) := by
      intro v hv
      rw [hx, aspL, ← hx, ← hd, hv, List.drop_eq_getElem_cons (show j < (acc.set j v).length by simp; omega), List.getElem_set_self, List.drop_set_of_lt (by omega)]
    simp only [if_pos (show (j : Int) ≥ 0 by omega), if_pos (show 0 ≤ (j : Int) by omega), if_pos (show (j : Int) < (xs.length : Int) by omega), if_pos (show (j : Int) < (acc.length : Int) by omega), hr, Int.toNat_natCast]
    cases hb : xs[j]'(by omega) with
    | true =>
      simp only [if_true]
      have ha : asp b (xs.drop j) = 0 := by rw [hx, hb]; rfl
      have h4 := ih (acc.set j 0) (by omega) (by simpa using hl) (hset 0 ha)
      rw [ha] at h4
      exact h4
    | false =>
      simp only [Bool.false_eq_true, if_false]
      rw [w64 (x := asp b (xs.drop (j + 1)) + 1) (by omega) (by omega)]
      have ha : asp b (xs.drop j) = mn (asp b (xs.drop (j + 1)) + 1) 3 := by
        rw [hx, hb]
        simp only [asp]
        unfold mn
        split <;> first | rfl | omega
      have h4 := ih (acc.set j _) (by omega) (by simpa using hl) (hset _ ha)
      rw [ha] at h4
      exact h4
theorem impl_aspects0_ev (xs : List Bool) (hn : xs.length ≤ 100) (b : Int) (hb : 0 ≤ b ∧ b ≤ 3) : Ev (fun k => impl_aspects.f k xs b) (aspL b xs) := by
  unfold impl_aspects.f
  simp only [if_pos (show 0 ≤ (xs.length : Int) by omega), if_pos (show ((xs.length : Int)).toNat ≤ 35184372088832 by omega)]
  rw [w64 (x := (xs.length : Int) - 1) (by omega) (by omega)]
  have h := impl_asp_loop xs hn b hb.1 hb.2 xs.length (List.replicate xs.length 0) (by omega) (by simp) (by simp [aspL])
  simpa [asp] using h
theorem impl_aspects_ev (xs : List Bool) (hn : xs.length ≤ 2000000) (b : Int) : Ev (fun k => impl_Aspects.f k xs b) (aspR xs b) := by
  unfold impl_Aspects.f aspR
  by_cases h : xs.length ≤ 100
  · simp only [if_neg (show ¬ (xs.length : Int) > 100 by omega), impl_in, Option.bind_some]
    by_cases hb : 0 ≤ b ∧ b ≤ 3
    · simp only [hb, h, and_self, decide_true, if_true]
      exact Ev.bind (impl_aspects0_ev xs h b hb) ev_some
    · simpa [hb] using ev_some
  · simp only [if_pos (show (xs.length : Int) > 100 by omega), h, false_and, if_false]
    exact ev_some
theorem aspR_length (xs : List Bool) (b : Int) : (aspR xs b).length ≤ xs.length := by
  unfold aspR
  split
  · rw [aspL_length]; omega
  · simp
theorem toBoolS_ev (xs : List Bool) (hn : xs.length ≤ 2000000) : Ev (fun k => laws_toBoolS.f k xs) xs := by
  unfold laws_toBoolS.f
  simp only [if_pos (show 0 ≤ (xs.length : Int) by omega), if_pos (show ((xs.length : Int)).toNat ≤ 281474976710656 by omega)]
  have h := copy_loop (fun b : Bool => b) false xs (fun k acc i => laws_toBoolS.l0 k xs acc i) (by omega) (fun k acc j => by
    simp only [laws_toBoolS.l0, rdOf, Int.toNat_natCast, if_pos (show 0 ≤ (j : Int) by omega), Int.ofNat_lt]) xs.length 0 (List.replicate xs.length false) (by omega) (by omega) (by simp) (by simp)
  simpa using h
theorem eqBoolS_ev (xs : List Bool) (hn : xs.length ≤ 2000000) : Ev (fun k => laws_eqBoolS.f k xs xs) true := by
  unfold laws_eqBoolS.f
  simp only [if_true]
  refine all_loop xs.length (fun k i => laws_eqBoolS.l0 k xs xs i) (by omega) (fun k j hj => ?_) (fun k => ?_) xs.length 0 (by omega) (by omega)
  · simp [laws_eqBoolS.l0, hj]
  · simp [laws_eqBoolS.l0]
theorem eqIntS_ev (xs : List Int) (hn : xs.length ≤ 2000000) : Ev (fun k => laws_eqIntS.f k xs xs) true := by
  unfold laws_eqIntS.f
  simp only [if_true]
  refine all_loop xs.length (fun k i => laws_eqIntS.l0 k xs xs i) (by omega) (fun k j hj => ?_) (fun k => ?_) xs.length 0 (by omega) (by omega)
  · simp [laws_eqIntS.l0, hj]
  · simp [laws_eqIntS.l0]
def markI (s : Int) (_ : Int) : Int := s
theorem markIntS_ev (xs : List Int) (hn : xs.length ≤ 2000000) (s : Nat) (hs : s ≤ 20000000) : Ev (fun k => laws_markIntS.f k xs (s : Int)) (((s + 1 * xs.length : Nat) : Int), marked 1 markI s xs) := by
  unfold laws_markIntS.f
  have h := mark_loop 1 (by omega) markI 0 xs (fun k acc s i => laws_markIntS.l0 k acc s i) hn s hs
    (fun k acc s j h1 h2 h3 => by
      simp only [laws_markIntS.l0, h1, if_pos (show (j : Int) < (xs.length : Int) by omega), if_pos (show 0 ≤ (j : Int) by omega), Int.toNat_natCast, markI]
      rw [w64 (x := (s : Int) + 1) (by omega) (by omega)]; rfl)
    (fun k acc s h1 => by simp [laws_markIntS.l0, h1]) xs.length 0 xs (by omega) (by omega) rfl (by simp) rfl
  simpa using h
theorem heldIntS_ev (xs : List Int) (hn : xs.length ≤ 2000000) (s : Nat) (hs : s ≤ 20000000) : Ev (fun k => laws_heldIntS.f k (marked 1 markI s xs) (s : Int)) ((s + 1 * xs.length : Nat) : Int) := by
  unfold laws_heldIntS.f
  have hl := marked_length 1 markI s xs
  have h := held_loop 1 (by omega) xs.length (fun k s' i => laws_heldIntS.l0 k (marked 1 markI s xs) s' i) hn s hs
    (fun k j hj => by
      have hm := marked_at 1 markI s xs j 0 hj
      simp only [laws_heldIntS.l0, hl, if_pos (show (j : Int) < (xs.length : Int) by omega), if_pos (show 0 ≤ (j : Int) by omega), rd, Int.toNat_natCast, List.getD_eq_getElem?_getD, hm, Option.getD_some, markI]
      rw [if_pos (by omega), w64 (x := ((s + 1 * j : Nat) : Int) + 1) (by omega) (by omega)]; rfl)
    (fun k s' => by simp [laws_heldIntS.l0, hl]) xs.length 0 (by omega) (by omega)
  simpa using h
def markB (s : Int) (_ : Bool) : Bool := (Int.tmod s 3 == 0)
theorem markBoolS_ev (xs : List Bool) (hn : xs.length ≤ 2000000) (s : Nat) (hs : s ≤ 20000000) : Ev (fun k => laws_markBoolS.f k xs (s : Int)) (((s + 1 * xs.length : Nat) : Int), marked 1 markB s xs) := by
  unfold laws_markBoolS.f
  have h := mark_loop 1 (by omega) markB false xs (fun k acc s i => laws_markBoolS.l0 k acc s i) hn s hs
    (fun k acc s j h1 h2 h3 => by
      simp only [laws_markBoolS.l0, h1, if_pos (show (j : Int) < (xs.length : Int) by omega), if_pos (show 0 ≤ (j : Int) by omega), Int.toNat_natCast, markB]
      rw [w64 (x := (s : Int) + 1) (by omega) (by omega)]; rfl)
    (fun k acc s h1 => by simp [laws_markBoolS.l0, h1]) xs.length 0 xs (by omega) (by omega) rfl (by simp) rfl
  simpa using h
theorem FnExactAspects : laws_FnExactAspects.Pure := by
  intro xs b _ _
  refine Ev.rounds ?_
  unfold laws_FnExactAspects.f
  by_cases h : (xs.length : Int) > 1048576
  · simp only [if_pos h]; exact ev_some
  · simp only [if_neg h]
    have hn : xs.length ≤ 2000000 := by omega
    have hr : (aspR xs b).length ≤ 2000000 := by have := aspR_length xs b; omega
    refine Ev.bind (toBoolS_ev xs hn) (Ev.bind (spec_aspects_ev xs hn b) (Ev.bind (toBoolS_ev xs hn) (Ev.bind (impl_aspects_ev xs hn b) (Ev.bind (eqIntS_ev _ hr) ?_))))
    simp only [if_true]
    refine Ev.bind (toBoolS_ev xs hn) (Ev.bind (eqBoolS_ev xs hn) ?_)
    simp only [if_true]
    refine Ev.bind (markBoolS_ev xs hn 1 (by omega)) ?_
    simp only [if_neg (show ¬ ((1 + 1 * xs.length : Nat) : Int) < 0 by omega)]
    refine Ev.bind (eqIntS_ev _ hr) ?_
    simp only [Bool.not_true]
    refine Ev.step (fun k => by rw [laws_FnExactAspects.j0]) ?_
    simp only [Bool.false_eq_true, if_false]
    refine Ev.bind (markIntS_ev _ hr 1 (by omega)) (Ev.bind (heldIntS_ev _ hr 1 (by omega)) ?_)
    simp only [if_neg (show ¬ ((1 + 1 * (aspR xs b).length : Nat) : Int) < 0 by omega), if_true]
    refine Ev.bind (toBoolS_ev xs hn) (Ev.bind (impl_aspects_ev xs hn b) (Ev.bind (eqIntS_ev _ hr) ?_))
    simp only [if_true]
    refine Ev.bind (heldIntS_ev _ hr 1 (by omega)) ?_
    simp only [if_neg (show ¬ ((1 + 1 * (aspR xs b).length : Nat) : Int) < 0 by omega), if_true]
    exact ev_some

end Go.Proofs.Ytcceefojngmpjaa.Pure
