/- In a drawn right net an edge is a bridge just when its ends lie in two parts of the net without it; the shortest way from one end of a bridge to the other uses it. -/
import Derived.Test.YtdeleoghaabjlaaRowFnBridges
namespace Go.Proofs.Ytdeleoghaabjlaa.Pure
open Go.RowKit Go.Proofs.Ytdeleoghaabjlaa.PFnBridges Go.Proofs.YtdeleoghaabjlaaW.PrintWords Go.Proofs.YtdeleoghaabjlaaW.PrintLast Go.Proofs.YtdeleoghaabjlaaW.PrintMore
set_option linter.unusedVariables false
set_option linter.unusedSimpArgs false
theorem w64 {x : Int} (h0 : -9223372036854775808 ≤ x) (h1 : x ≤ 9223372036854775807) : wrap64 x = x := by unfold wrap64; omega
theorem ev_k {α : Type} {g : Nat → Option α} {r : α} (h : ∀ k, g k = some r) : Ev g r := ⟨0, fun k _ => h k⟩
theorem ev_some {α : Type} {r : α} : Ev (fun _ => some r) r := Ev.now r
theorem wf_i64 {x : Int} (h : (Lit.int .i64 x).wf = true) : -9223372036854775808 ≤ x ∧ x ≤ 9223372036854775807 := by
  simp only [Lit.wf, Bool.and_eq_true, decide_eq_true_eq] at h
  have h1 : IntKind.min .i64 = -9223372036854775808 := by decide
  have h2 : IntKind.max .i64 = 9223372036854775807 := by decide
  omega
theorem wf_u8 {x : Int} (h : (Lit.int .u8 x).wf = true) : 0 ≤ x ∧ x ≤ 255 := by
  simp only [Lit.wf, Bool.and_eq_true, decide_eq_true_eq] at h
  have h1 : IntKind.min .u8 = 0 := by decide
  have h2 : IntKind.max .u8 = 255 := by decide
  omega
/-! Loops over lists, whatever the elements. -/
theorem nat_w {j : Nat} (h : j ≤ 9223372036854775806) : wrap64 ((j : Int) + 1) = ((j + 1 : Nat) : Int) := by rw [w64 (by omega) (by omega)]; omega
theorem set_take {α : Type} {acc ys : List α} {j : Nat} (hl : acc.length = ys.length) (ht : acc.take j = ys.take j) (hj : j < ys.length) {v : α} (hv : ys[j]? = some v) : (acc.set j v).take (j + 1) = ys.take (j + 1) := by
  apply List.ext_getElem?
  intro i
  by_cases hi : i < j + 1
  · rw [List.getElem?_take_of_lt hi, List.getElem?_take_of_lt hi]
    by_cases e : i = j
    · subst e
      rw [List.getElem?_set_self (by omega), hv]
    · rw [List.getElem?_set_ne (by omega)]
      have h1 := congrArg (fun l => l[i]?) ht
      simp only [List.getElem?_take_of_lt (show i < j by omega)] at h1
      exact h1
  · rw [List.getElem?_eq_none (by simp; omega), List.getElem?_eq_none (by simp; omega)]
theorem getD_some {α : Type} {xs : List α} {j : Nat} (h : j < xs.length) (d : α) : xs[j]? = some (xs.getD j d) := by
  rw [List.getD_eq_getElem?_getD, List.getElem?_eq_getElem h]; rfl
/-- A loop that writes g of each element of xs into a row of the same length. -/
theorem copy_loop {α β : Type} (g : β → α) (d : β) (xs : List β) (L : Nat → List α → Int → Option (List α)) (hn : xs.length ≤ 9223372036854775806)
    (hs : ∀ k acc (j : Nat), L (k + 1) acc (j : Int) = if j < xs.length then (if j < acc.length then L k (acc.set j (g (xs.getD j d))) (wrap64 ((j : Int) + 1)) else none) else some acc)
    (m : Nat) : ∀ (j : Nat) (acc : List α), xs.length - j = m → j ≤ xs.length → acc.length = xs.length → acc.take j = (xs.map g).take j → Ev (fun k => L k acc (j : Int)) (xs.map g) := by
  induction m with
  | zero =>
    intro j acc h0 h1 h2 h3
    refine Ev.step (fun k => hs k acc j) ?_
    simp only [if_neg (show ¬ j < xs.length by omega)]
    have e : acc = xs.map g := by
      have h4 : acc.take j = acc := List.take_of_length_le (by omega)
      have h5 : (xs.map g).take j = xs.map g := List.take_of_length_le (by simp; omega)
      rw [← h4, h3, h5]
    rw [e]
    exact ev_some
  | succ m ih =>
    intro j acc h0 h1 h2 h3
    refine Ev.step (fun k => hs k acc j) ?_
    simp only [if_pos (show j < xs.length by omega), if_pos (show j < acc.length by omega)]
    rw [nat_w (by omega)]
    refine ih (j + 1) _ (by omega) (by omega) (by simpa using h2) ?_
    refine set_take (by simpa using h2) h3 (by simp; omega) ?_
    rw [List.getElem?_map, getD_some (show j < xs.length by omega) d]
    rfl
/-- A loop that asks each index, and goes on where the answer is yes. -/
theorem all_loop (n : Nat) (L : Nat → Int → Option Bool) (hn : n ≤ 9223372036854775806) (hs : ∀ k (j : Nat), j < n → L (k + 1) (j : Int) = L k (wrap64 ((j : Int) + 1))) (he : ∀ k, L (k + 1) (n : Int) = some true)
    (m : Nat) : ∀ j : Nat, n - j = m → j ≤ n → Ev (fun k => L k (j : Int)) true := by
  induction m with
  | zero =>
    intro j h0 h1
    obtain rfl : j = n := by omega
    exact Ev.step (fun k => he k) ev_some
  | succ m ih =>
    intro j h0 h1
    refine Ev.step (fun k => hs k j (by omega)) ?_
    rw [nat_w (by omega)]
    exact ih (j + 1) (by omega) (by omega)
/-- The elements one behind the other, each turned by f with a number that goes on by c. -/
def marked {α : Type} (c : Int) (f : Int → α → α) : Int → List α → List α
  | _, [] => []
  | s, x :: xs => f s x :: marked c f (s + c) xs
theorem marked_length {α : Type} (c : Int) (f : Int → α → α) : ∀ (s : Int) (xs : List α), (marked c f s xs).length = xs.length
  | _, [] => rfl
  | s, x :: xs => by simp [marked, marked_length c f (s + c) xs]
theorem marked_at {α : Type} (c : Int) (f : Int → α → α) : ∀ (s : Int) (xs : List α) (j : Nat) (d : α), j < xs.length → (marked c f s xs)[j]? = some (f (s + c * j) (xs.getD j d))
  | _, [], j, d, h => by simp at h
  | s, x :: xs, 0, d, _ => by simp [marked]
  | s, x :: xs, j + 1, d, h => by
    have := marked_at c f (s + c) xs j d (by simpa using h)
    simp only [marked, List.getElem?_cons_succ, List.getD_cons_succ]
    rw [this]
    congr 2
    rw [Int.natCast_succ, Int.mul_add]; omega
/-- A loop that marks a row. -/
theorem mark_loop {α : Type} (c : Nat) (hc : c ≤ 8) (f : Int → α → α) (d : α) (xs : List α) (L : Nat → List α → Int → Int → Option (Int × List α)) (hn : xs.length ≤ 2000000) (s0 : Nat) (hs0 : s0 ≤ 20000000)
    (hs : ∀ k acc (s : Nat) (j : Nat), acc.length = xs.length → s ≤ 40000000 → j < xs.length → L (k + 1) acc (s : Int) (j : Int) = L k (acc.set j (f (s : Int) (acc.getD j d))) ((s + c : Nat) : Int) (wrap64 ((j : Int) + 1)))
    (he : ∀ k acc (s : Int), acc.length = xs.length → L (k + 1) acc s (xs.length : Int) = some (s, acc))
    (m : Nat) : ∀ (j : Nat) (acc : List α), xs.length - j = m → j ≤ xs.length → acc.length = xs.length → acc.take j = (marked c f s0 xs).take j → acc.drop j = xs.drop j → Ev (fun k => L k acc ((s0 + c * j : Nat) : Int) (j : Int)) (((s0 + c * xs.length : Nat) : Int), marked c f s0 xs) := by
  induction m with
  | zero =>
    intro j acc h0 h1 h2 h3 _
    obtain rfl : j = xs.length := by omega
    refine Ev.step (fun k => he k acc _ h2) ?_
    have e : acc = marked c f s0 xs := by
      have h4 : acc.take xs.length = acc := List.take_of_length_le (by omega)
      have h5 : (marked c f s0 xs).take xs.length = marked c f s0 xs := List.take_of_length_le (by rw [marked_length]; omega)
      rw [← h4, h3, h5]
    rw [e]
    exact ev_some
  | succ m ih =>
    intro j acc h0 h1 h2 h3 h4
    have hb : c * j ≤ 8 * 2000000 := Nat.mul_le_mul hc (by omega)
    refine Ev.step (fun k => hs k acc _ j h2 (by omega) (by omega)) ?_
    rw [nat_w (by omega), show s0 + c * j + c = s0 + c * (j + 1) by rw [Nat.mul_add]; omega]
    have hg : acc.getD j d = xs.getD j d := by
      have h5 := congrArg (fun l => l[0]?) h4
      simp only [List.getElem?_drop, Nat.add_zero] at h5
      rw [List.getD_eq_getElem?_getD, List.getD_eq_getElem?_getD, h5]
    refine ih (j + 1) _ (by omega) (by omega) (by simpa using h2) ?_ ?_
    · refine set_take (by rw [marked_length]; exact h2) h3 (by rw [marked_length]; omega) ?_
      rw [marked_at c f s0 xs j d (by omega), hg]
      simp
    · rw [List.drop_set_of_lt (by omega), ← List.drop_drop, h4, List.drop_drop]
/-- A loop that looks whether a row is marked so. -/
theorem held_loop (c : Nat) (hc : c ≤ 8) (n : Nat) (L : Nat → Int → Int → Option Int) (hn : n ≤ 2000000) (s0 : Nat) (hs0 : s0 ≤ 20000000)
    (hs : ∀ k (j : Nat), j < n → L (k + 1) ((s0 + c * j : Nat) : Int) (j : Int) = L k ((s0 + c * j + c : Nat) : Int) (wrap64 ((j : Int) + 1)))
    (he : ∀ k (s : Int), L (k + 1) s (n : Int) = some s)
    (m : Nat) : ∀ j : Nat, n - j = m → j ≤ n → Ev (fun k => L k ((s0 + c * j : Nat) : Int) (j : Int)) (((s0 + c * n : Nat) : Int)) := by
  induction m with
  | zero =>
    intro j h0 h1
    obtain rfl : j = n := by omega
    exact Ev.step (fun k => he k _) ev_some
  | succ m ih =>
    intro j h0 h1
    refine Ev.step (fun k => hs k j (by omega)) ?_
    rw [nat_w (by omega), show s0 + c * j + c = s0 + c * (j + 1) by rw [Nat.mul_add]; omega]
    exact ih (j + 1) (by omega) (by omega)
theorem drop_cons {α : Type} {xs : List α} {j : Nat} {t : α} {rest : List α} (h : xs.drop j = t :: rest) : j < xs.length ∧ (∀ d, xs.getD j d = t) ∧ xs.drop (j + 1) = rest := by
  have hj : j < xs.length := by
    rcases Nat.lt_or_ge j xs.length with h1 | h1
    · exact h1
    · rw [List.drop_of_length_le h1] at h; cases h
  rw [List.drop_eq_getElem_cons hj] at h
  injection h with h1 h2
  exact ⟨hj, fun d => by rw [List.getD_eq_getElem?_getD, List.getElem?_eq_getElem hj, ← h1]; rfl, h2⟩
theorem drop_nil {α : Type} {xs : List α} {j : Nat} (h : xs.drop j = []) : xs.length ≤ j := by simpa using h
theorem rdI_at (xs : List Int) (j : Nat) : rd xs (j : Int) = xs.getD j 0 := by unfold rd; rw [Int.toNat_natCast]
theorem rdB_at (xs : List Bool) (j : Nat) : rdOf false xs (j : Int) = xs.getD j false := by unfold rdOf; rw [Int.toNat_natCast]
def edgeB (n : Int) (e : S54) : Bool := decide (0 ≤ e.f0 ∧ e.f0 ≤ n - 1) && (decide (0 ≤ e.f1 ∧ e.f1 ≤ n - 1) && (!decide (e.f0 = e.f1) && (decide (1 ≤ e.f2 ∧ e.f2 ≤ 100000) && decide (1 ≤ e.f3 ∧ e.f3 ≤ 90))))
def netB (n : Int) (es : List S54) : Bool := decide (1 ≤ n ∧ n ≤ 30) && (decide (es.length ≤ 60) && es.all (edgeB n))
theorem netB_parts {n : Int} {es : List S54} (h : netB n es = true) : (1 ≤ n ∧ n ≤ 30) ∧ es.length ≤ 60 ∧ ∀ e ∈ es, (0 ≤ e.f0 ∧ e.f0 ≤ n - 1) ∧ (0 ≤ e.f1 ∧ e.f1 ≤ n - 1) ∧ e.f0 ≠ e.f1 ∧ (1 ≤ e.f2 ∧ e.f2 ≤ 100000) ∧ (1 ≤ e.f3 ∧ e.f3 ≤ 90) := by
  simp only [netB, Bool.and_eq_true, decide_eq_true_eq, List.all_eq_true] at h
  refine ⟨h.1, h.2.1, fun e he => ?_⟩
  have := h.2.2 e he
  simpa [edgeB, Bool.and_eq_true, decide_eq_true_eq] using this
theorem rd54_at (xs : List S54) (j : Nat) : rd_T54 xs (j : Int) = xs.getD j z54 := by unfold rd_T54; rw [Int.toNat_natCast]
namespace BF

theorem exists_min {P : Nat → Prop} (h : ∃ n, P n) : ∃ n, P n ∧ ∀ k, P k → n ≤ k := by
  obtain ⟨n, hn⟩ := h
  induction n using Nat.strongRecOn with
  | _ n ih =>
    by_cases hk : ∃ k, k < n ∧ P k
    · obtain ⟨k, hlt, hp⟩ := hk
      exact ih k hlt hp
    · exact ⟨n, hn, fun k hp => Nat.le_of_not_lt fun hlt => hk ⟨k, hlt, hp⟩⟩

theorem countP_mono {α : Type} (p q : α → Bool) (h : ∀ x, p x = true → q x = true) : ∀ xs : List α, xs.countP p ≤ xs.countP q
  | [] => by simp
  | x :: xs => by
    have ih := countP_mono p q h xs
    simp only [List.countP_cons]
    cases hp : p x
    · simp; split <;> omega
    · rw [if_pos rfl, if_pos (h x hp)]; omega

theorem countP_strict {α : Type} (p q : α → Bool) (h : ∀ x, p x = true → q x = true) (y : α) (hq : q y = true) (hp : p y = false) : ∀ xs : List α, y ∈ xs → xs.countP p < xs.countP q
  | [], hy => by simp at hy
  | x :: xs, hy => by
    have hm := countP_mono p q h xs
    simp only [List.countP_cons]
    rcases List.mem_cons.1 hy with rfl | hy
    · rw [hp, hq]; simp; omega
    · have ih := countP_strict p q h y hq hp xs hy
      cases hpx : p x
      · simp; split <;> omega
      · rw [if_pos rfl, if_pos (h x hpx)]; omega

theorem countP_lt_length {α : Type} (p : α → Bool) (y : α) (hp : p y = false) (xs : List α) (hy : y ∈ xs) : xs.countP p < xs.length := by
  have := countP_strict p (fun _ => true) (fun _ _ => rfl) y rfl hp xs hy
  have e : xs.countP (fun _ => true) = xs.length := by simp
  omega

section
variable {α : Type} (adj : α → α → Nat → Prop)

/-- A walk from v to t: its metres and its edges. -/
inductive W (t : α) : α → Nat → Nat → Prop
  | nil : W t t 0 0
  | cons {v w : α} {e l m : Nat} : adj v w e → W t w l m → W t v (l + e) (m + 1)

variable {adj}
theorem W.trans {t u v : α} {l m l' m' : Nat} (h : W adj u v l m) (h' : W adj t u l' m') : W adj t v (l + l') (m + m') := by
  induction h with
  | nil => simpa using h'
  | cons ha _ ih => have := W.cons ha ih; simpa [Nat.add_right_comm] using this

theorem W.rev {t v : α} {l m : Nat} (hs : ∀ a b e, adj a b e → adj b a e) (h : W adj t v l m) : W adj v t l m := by
  induction h with
  | nil => exact .nil
  | cons ha _ ih =>
    have h1 := W.trans ih (W.cons (hs _ _ _ ha) W.nil)
    simpa using h1

def le (a b a' b' : Nat) : Prop := a < a' ∨ (a = a' ∧ b ≤ b')

/-- The least of the walks: metres first, then edges. -/
theorem least {t v : α} (h : ∃ l m, W adj t v l m) : ∃ l m, W adj t v l m ∧ ∀ l' m', W adj t v l' m' → le l m l' m' := by
  obtain ⟨l, ⟨m0, h0⟩, hl⟩ := exists_min (P := fun l => ∃ m, W adj t v l m) h
  obtain ⟨m, hm, hle⟩ := exists_min (P := fun m => W adj t v l m) ⟨m0, h0⟩
  refine ⟨l, m, hm, fun l' m' h' => ?_⟩
  have h1 := hl l' ⟨m', h'⟩
  rcases Nat.lt_or_ge l l' with h2 | h2
  · exact .inl h2
  · obtain rfl : l = l' := by omega
    exact .inr ⟨rfl, hle m' h'⟩

open Classical in
/-- The least walk has fewer edges than there are nodes. -/
theorem least_short {t : α} {nodes : List α} (hpos : ∀ a b e, adj a b e → 0 < e) (hn : ∀ a l m, W adj t a l m → a ∈ nodes) {v : α} {l m : Nat} (h : W adj t v l m)
    (hmin : ∀ l' m', W adj t v l' m' → le l m l' m') : m < nodes.length := by
  have key : m ≤ nodes.countP (fun u => decide (∃ lu mu, W adj t u lu mu ∧ lu < l)) := by
    induction h with
    | nil => omega
    | @cons v w e l m ha hw ih =>
      have hp := hpos _ _ _ ha
      have hminw : ∀ l' m', W adj t w l' m' → le l m l' m' := by
        intro l' m' h'
        have := hmin _ _ (W.cons ha h')
        unfold le at this ⊢
        omega
      have h1 := ih hminw
      have h2 := countP_strict (fun u => decide (∃ lu mu, W adj t u lu mu ∧ lu < l)) (fun u => decide (∃ lu mu, W adj t u lu mu ∧ lu < l + e))
        (fun x hx => by
          simp only [decide_eq_true_eq] at hx ⊢
          obtain ⟨lu, mu, h3, h4⟩ := hx
          exact ⟨lu, mu, h3, by omega⟩) w (by simp only [decide_eq_true_eq]; exact ⟨l, m, hw, by omega⟩)
        (by
          simp only [decide_eq_false_iff_not]
          rintro ⟨lu, mu, h3, h4⟩
          have := hminw _ _ h3
          unfold le at this
          omega) nodes (hn _ _ _ hw)
      omega
  have := countP_lt_length (fun u => decide (∃ lu mu, W adj t u lu mu ∧ lu < l)) v (by
    simp only [decide_eq_false_iff_not]
    rintro ⟨lu, mu, h3, h4⟩
    have := hmin _ _ h3
    unfold le at this
    omega) nodes (hn _ _ _ h)
  omega

/-- A state of relaxing: which nodes are known, and their metres and edges. -/
structure St (α : Type) where
  K : α → Prop
  L : α → Nat
  M : α → Nat

variable (adj)
structure Inv (t : α) (s : St α) : Prop where
  src : s.K t ∧ s.L t = 0 ∧ s.M t = 0
  walk : ∀ v, s.K v → W adj t v (s.L v) (s.M v)

def Fix (s : St α) : Prop := ∀ v w e, adj v w e → s.K w → s.K v ∧ le (s.L v) (s.M v) (s.L w + e) (s.M w + 1)

/-- One round, whatever its order: every edge is relaxed by at least what stood before. -/
def Round (s s' : St α) : Prop := ∀ v w e, adj v w e → s.K w → s'.K v ∧ le (s'.L v) (s'.M v) (s.L w + e) (s.M w + 1)

variable {adj}
theorem best_of_fix {t : α} {s : St α} (hi : Inv adj t s) (hf : Fix adj s) {v : α} {l m : Nat} (h : W adj t v l m) : s.K v ∧ le (s.L v) (s.M v) l m := by
  induction h with
  | nil => obtain ⟨h1, h2, h3⟩ := hi.src; exact ⟨h1, by unfold le; omega⟩
  | cons ha _ ih =>
    obtain ⟨hk, hl⟩ := ih
    obtain ⟨h1, h2⟩ := hf _ _ _ ha hk
    refine ⟨h1, ?_⟩
    unfold le at *
    omega

/-- Two states that are both done are one. -/
theorem unique {t : α} {s s' : St α} (hi : Inv adj t s) (hf : Fix adj s) (hi' : Inv adj t s') (hf' : Fix adj s') (v : α) :
    (s.K v ↔ s'.K v) ∧ (s.K v → s.L v = s'.L v ∧ s.M v = s'.M v) := by
  refine ⟨⟨fun h => (best_of_fix hi' hf' (hi.walk v h)).1, fun h => (best_of_fix hi hf (hi'.walk v h)).1⟩, fun h => ?_⟩
  have h1 := best_of_fix hi' hf' (hi.walk v h)
  have h2 := best_of_fix hi hf (hi'.walk v h1.1)
  have h3 := h1.2
  have h4 := h2.2
  unfold le at h3 h4
  omega

/-- Behind r rounds the walks of at most r edges are beaten. -/
theorem rounds_beat {t : α} (s : Nat → St α) (hi : ∀ r, Inv adj t (s r)) (hr : ∀ r, Round adj (s r) (s (r + 1))) {v : α} {l m : Nat} (h : W adj t v l m) :
    ∀ r, m ≤ r → (s r).K v ∧ le ((s r).L v) ((s r).M v) l m := by
  induction h with
  | nil => intro r _; obtain ⟨h1, h2, h3⟩ := (hi r).src; exact ⟨h1, by unfold le; omega⟩
  | cons ha _ ih =>
    intro r hr'
    obtain ⟨r, rfl⟩ : ∃ q, r = q + 1 := ⟨r - 1, by omega⟩
    obtain ⟨hk, hl⟩ := ih r (by omega)
    obtain ⟨h1, h2⟩ := hr r _ _ _ ha hk
    refine ⟨h1, ?_⟩
    unfold le at *
    omega

/-- Behind as many rounds as there are nodes, less one, all is done. -/
theorem rounds_fix {t : α} {nodes : List α} (hpos : ∀ a b e, adj a b e → 0 < e) (hn : ∀ a l m, W adj t a l m → a ∈ nodes) (s : Nat → St α) (hi : ∀ r, Inv adj t (s r)) (hr : ∀ r, Round adj (s r) (s (r + 1)))
    (r : Nat) (hlen : nodes.length ≤ r + 1) : Fix adj (s r) := by
  intro v w e ha hk
  have hw := (hi r).walk w hk
  have hv := W.cons ha hw
  obtain ⟨l, m, h1, h2⟩ := least (adj := adj) ⟨_, _, hv⟩
  have h3 := least_short hpos hn h1 h2
  have h4 := rounds_beat s hi hr h1 r (by omega)
  have h5 := h2 _ _ hv
  refine ⟨h4.1, ?_⟩
  have h6 := h4.2
  unfold le at *
  omega

/-- Done: the edges of a node's least walk are fewer than the nodes. -/
theorem short_of_fix {t : α} {nodes : List α} (hpos : ∀ a b e, adj a b e → 0 < e) (hn : ∀ a l m, W adj t a l m → a ∈ nodes) {s : St α} (hi : Inv adj t s) (hf : Fix adj s) {v : α} (hk : s.K v) : s.M v < nodes.length :=
  least_short hpos hn (hi.walk v hk) fun _ _ h => (best_of_fix hi hf h).2

/-- Done: a known node other than the end has an edge along which it is just as far. -/
theorem tight {t : α} {s : St α} (hi : Inv adj t s) (hf : Fix adj s) {v : α} (hk : s.K v) (hv : v ≠ t) : ∃ w e, adj v w e ∧ s.K w ∧ s.L w + e = s.L v ∧ s.M w + 1 = s.M v := by
  have hw := hi.walk v hk
  generalize hL : s.L v = l at hw
  generalize hM : s.M v = m at hw
  cases hw with
  | nil => exact absurd rfl hv
  | @cons _ w e l m ha hw =>
    have h1 := best_of_fix hi hf hw
    have h2 := (hf _ _ _ ha h1.1).2
    refine ⟨w, e, ha, h1.1, ?_⟩
    have h3 := h1.2
    unfold le at *
    omega
end
end BF

/-! Relaxing over lists. -/
namespace BL
abbrev S := List (Option (Nat × Nat))
abbrev D := Nat × Nat × Nat
def get (s : S) (v : Nat) : Option (Nat × Nat) := s.getD v none
/-- a is at most b. -/
def leO (a b : Option (Nat × Nat)) : Prop := ∀ q, b = some q → ∃ p, a = some p ∧ BF.le p.1 p.2 q.1 q.2
theorem leO_refl (a : Option (Nat × Nat)) : leO a a := fun q h => ⟨q, h, .inr ⟨rfl, Nat.le_refl _⟩⟩
theorem leO_trans {a b c : Option (Nat × Nat)} (h : leO a b) (h' : leO b c) : leO a c := fun q hq => by
  obtain ⟨p, hp, h1⟩ := h' q hq
  obtain ⟨r, hr, h2⟩ := h p hp
  exact ⟨r, hr, by unfold BF.le at *; omega⟩
/-- Does a step change something? -/
def ch (s : S) (d : D) : Bool :=
  match get s d.2.1 with
  | none => false
  | some p => match get s d.1 with
    | none => true
    | some q => decide (p.1 + d.2.2 < q.1) || (decide (p.1 + d.2.2 = q.1) && decide (p.2 + 1 < q.2))
def relax (s : S) (d : D) : S := if ch s d = true then s.set d.1 (some (((get s d.2.1).getD (0, 0)).1 + d.2.2, ((get s d.2.1).getD (0, 0)).2 + 1)) else s
theorem get_set {s : S} {v : Nat} (h : v < s.length) (x : Option (Nat × Nat)) (u : Nat) : get (s.set v x) u = if u = v then x else get s u := by
  unfold get
  by_cases c : u = v
  · subst c
    rw [if_pos rfl, List.getD_eq_getElem?_getD, List.getElem?_set_self h]; rfl
  · rw [if_neg c, List.getD_eq_getElem?_getD, List.getElem?_set_ne (fun e => c e.symm), List.getD_eq_getElem?_getD]
theorem relax_length (s : S) (d : D) : (relax s d).length = s.length := by
  unfold relax; split <;> simp
theorem get_none {s : S} {v : Nat} (h : s.length ≤ v) : get s v = none := by
  unfold get
  rw [List.getD_eq_getElem?_getD, List.getElem?_eq_none h]; rfl
theorem relax_le (s : S) (d : D) (hd : d.1 < s.length) (u : Nat) : leO (get (relax s d) u) (get s u) := by
  unfold relax
  by_cases c : ch s d = true
  · rw [if_pos c, get_set hd]
    by_cases e : u = d.1
    · subst e
      rw [if_pos rfl]
      unfold ch at c
      cases h1 : get s d.2.1 with
      | none => rw [h1] at c; simp at c
      | some p =>
        rw [h1] at c
        intro q hq
        rw [hq] at c
        simp only [Bool.or_eq_true, Bool.and_eq_true, decide_eq_true_eq] at c
        refine ⟨_, rfl, ?_⟩
        show BF.le (p.1 + d.2.2) (p.2 + 1) q.1 q.2
        unfold BF.le; omega
    · rw [if_neg e]; exact leO_refl _
  · rw [if_neg c]; exact leO_refl _
theorem relax_does (s : S) (d : D) (hd : d.1 < s.length) (p : Nat × Nat) (hp : get s d.2.1 = some p) : leO (get (relax s d) d.1) (some (p.1 + d.2.2, p.2 + 1)) := by
  intro q hq
  have hq' := (Option.some.inj hq).symm
  subst hq'
  unfold relax
  by_cases c : ch s d = true
  · rw [if_pos c, get_set hd, if_pos rfl, hp]
    exact ⟨_, rfl, .inr ⟨rfl, Nat.le_refl _⟩⟩
  · rw [if_neg c]
    unfold ch at c
    rw [hp] at c
    cases h1 : get s d.1 with
    | none => rw [h1] at c; simp at c
    | some q =>
      rw [h1] at c
      simp only [Bool.or_eq_true, Bool.and_eq_true, decide_eq_true_eq, not_or, not_and] at c
      refine ⟨q, rfl, ?_⟩
      unfold BF.le
      simp only
      omega
def round (s : S) (ds : List D) : S := ds.foldl relax s
theorem round_length : ∀ (ds : List D) (s : S), (round s ds).length = s.length
  | [], s => rfl
  | d :: ds, s => by
    show (round (relax s d) ds).length = s.length
    rw [round_length ds, relax_length]
theorem round_le (u : Nat) : ∀ (ds : List D) (s : S), (∀ d ∈ ds, d.1 < s.length) → leO (get (round s ds) u) (get s u)
  | [], s, _ => leO_refl _
  | d :: ds, s, h => by
    show leO (get (round (relax s d) ds) u) (get s u)
    exact leO_trans (round_le u ds _ (fun x hx => by rw [relax_length]; exact h x (List.mem_cons_of_mem _ hx))) (relax_le s d (h d (List.mem_cons_self ..)) u)
theorem round_does : ∀ (ds : List D) (s : S), (∀ d ∈ ds, d.1 < s.length) → ∀ d ∈ ds, ∀ p, get s d.2.1 = some p → leO (get (round s ds) d.1) (some (p.1 + d.2.2, p.2 + 1))
  | [], s, _, d, hd, _, _ => by cases hd
  | d' :: ds, s, h, d, hd, p, hp => by
    show leO (get (round (relax s d') ds) d.1) _
    have hl : ∀ x ∈ ds, x.1 < (relax s d').length := fun x hx => by rw [relax_length]; exact h x (List.mem_cons_of_mem _ hx)
    rcases List.mem_cons.1 hd with rfl | hd
    · exact leO_trans (round_le d.1 ds _ hl) (relax_does s d (h d (List.mem_cons_self ..)) p hp)
    · obtain ⟨p', hp', hle⟩ := relax_le s d' (h d' (List.mem_cons_self ..)) d.2.1 p hp
      have h1 := round_does ds (relax s d') hl d hd p' hp'
      refine leO_trans h1 ?_
      intro q hq
      have hq' := (Option.some.inj hq).symm
      subst hq'
      exact ⟨_, rfl, by unfold BF.le at *; simp only; omega⟩
def toSt (s : S) : BF.St Nat := ⟨fun v => (get s v).isSome = true, fun v => ((get s v).getD (0, 0)).1, fun v => ((get s v).getD (0, 0)).2⟩
def adj (ds : List D) (v w e : Nat) : Prop := (v, w, e) ∈ ds
theorem le_toSt {s s' : S} {v l m : Nat} (h : leO (get s' v) (some (l, m))) : (toSt s').K v ∧ BF.le ((toSt s').L v) ((toSt s').M v) l m := by
  obtain ⟨p, hp, hle⟩ := h _ rfl
  unfold toSt
  simp only [hp]
  exact ⟨rfl, hle⟩
theorem round_round (ds : List D) (s : S) (h : ∀ d ∈ ds, d.1 < s.length) : BF.Round (adj ds) (toSt s) (toSt (round s ds)) := by
  intro v w e ha hk
  have hk' : (get s w).isSome = true := hk
  obtain ⟨p, hp⟩ := Option.isSome_iff_exists.1 hk'
  have := round_does ds s h _ ha p hp
  have h2 := le_toSt (s := s) this
  have e1 : (toSt s).L w = p.1 := by unfold toSt; simp only [hp]; rfl
  have e2 : (toSt s).M w = p.2 := by unfold toSt; simp only [hp]; rfl
  rw [e1, e2]
  exact h2
structure Ok (ds : List D) (t : Nat) (s : S) : Prop where
  src : get s t = some (0, 0)
  walk : ∀ v p, get s v = some p → BF.W (adj ds) t v p.1 p.2
theorem relax_ok {ds : List D} {t : Nat} {s : S} (h : Ok ds t s) {d : D} (hd : d ∈ ds) (hl : d.1 < s.length) : Ok ds t (relax s d) := by
  refine ⟨?_, fun v p hp => ?_⟩
  · obtain ⟨p, hp, hle⟩ := relax_le s d hl t _ h.src
    rw [hp]
    obtain ⟨a, b⟩ := p
    unfold BF.le at hle
    simp only at hle
    have : a = 0 := by omega
    have : b = 0 := by omega
    subst a b; rfl
  · unfold relax at hp
    by_cases c : ch s d = true
    · rw [if_pos c, get_set hl] at hp
      by_cases e : v = d.1
      · rw [if_pos e] at hp
        cases h1 : get s d.2.1 with
        | none => unfold ch at c; rw [h1] at c; simp at c
        | some q =>
          rw [h1] at hp
          have hp' := (Option.some.inj hp).symm
          subst hp' e
          exact BF.W.cons (show adj ds d.1 d.2.1 d.2.2 from hd) (h.walk _ _ h1)
      · rw [if_neg e] at hp; exact h.walk v p hp
    · rw [if_neg c] at hp; exact h.walk v p hp
theorem round_ok {ds : List D} {t : Nat} : ∀ (xs : List D) (s : S), Ok ds t s → (∀ d ∈ xs, d ∈ ds) → (∀ d ∈ xs, d.1 < s.length) → Ok ds t (round s xs)
  | [], _, h, _, _ => h
  | d :: xs, s, h, h1, h2 => by
    show Ok ds t (round (relax s d) xs)
    exact round_ok xs _ (relax_ok h (h1 d (List.mem_cons_self ..)) (h2 d (List.mem_cons_self ..))) (fun x hx => h1 x (List.mem_cons_of_mem _ hx)) (fun x hx => by rw [relax_length]; exact h2 x (List.mem_cons_of_mem _ hx))
theorem ok_inv {ds : List D} {t : Nat} {s : S} (h : Ok ds t s) : BF.Inv (adj ds) t (toSt s) := by
  refine ⟨by unfold toSt; simp only [h.src]; exact ⟨rfl, rfl, rfl⟩, fun v hv => ?_⟩
  have hv' : (get s v).isSome = true := hv
  obtain ⟨p, hp⟩ := Option.isSome_iff_exists.1 hv'
  have := h.walk v p hp
  unfold toSt
  simp only [hp]
  exact this
/-- Is anything changed in a round? -/
def chs : S → List D → Bool
  | _, [] => false
  | s, d :: ds => ch s d || chs (relax s d) ds
theorem chs_false : ∀ (ds : List D) (s : S), chs s ds = false → round s ds = s ∧ ∀ d ∈ ds, ch s d = false
  | [], s, _ => ⟨rfl, fun d hd => by cases hd⟩
  | d :: ds, s, h => by
    unfold chs at h
    rw [Bool.or_eq_false_iff] at h
    have e : relax s d = s := by unfold relax; rw [h.1]; rfl
    rw [e] at h
    obtain ⟨h1, h2⟩ := chs_false ds s h.2
    refine ⟨?_, fun x hx => ?_⟩
    · show round (relax s d) ds = s
      rw [e, h1]
    · rcases List.mem_cons.1 hx with rfl | hx
      · exact h.1
      · exact h2 x hx
theorem ch_false {s : S} {d : D} (h : ch s d = false) {p : Nat × Nat} (hp : get s d.2.1 = some p) : leO (get s d.1) (some (p.1 + d.2.2, p.2 + 1)) := by
  unfold ch at h
  rw [hp] at h
  cases h1 : get s d.1 with
  | none => rw [h1] at h; simp at h
  | some q =>
    rw [h1] at h
    simp only [Bool.or_eq_false_iff, Bool.and_eq_false_iff, decide_eq_false_iff_not] at h
    intro r hr
    have hr' := (Option.some.inj hr).symm
    subst hr'
    exact ⟨q, rfl, by unfold BF.le; simp only; omega⟩
def Done (ds : List D) (s : S) : Prop := ∀ d ∈ ds, ch s d = false
theorem done_fix {ds : List D} {s : S} (h : Done ds s) : BF.Fix (adj ds) (toSt s) := by
  intro v w e ha hk
  have hk' : (get s w).isSome = true := hk
  obtain ⟨p, hp⟩ := Option.isSome_iff_exists.1 hk'
  have h2 := le_toSt (s := s) (ch_false (h _ ha) hp)
  have e1 : (toSt s).L w = p.1 := by unfold toSt; simp only [hp]; rfl
  have e2 : (toSt s).M w = p.2 := by unfold toSt; simp only [hp]; rfl
  rw [e1, e2]
  exact h2
theorem fix_done {ds : List D} {s : S} (h : BF.Fix (adj ds) (toSt s)) : Done ds s := by
  intro d hd
  unfold ch
  cases h1 : get s d.2.1 with
  | none => rfl
  | some p =>
    have hk : (toSt s).K d.2.1 := by show (get s d.2.1).isSome = true; rw [h1]; rfl
    obtain ⟨hv, hle⟩ := h d.1 d.2.1 d.2.2 hd hk
    have e1 : (toSt s).L d.2.1 = p.1 := by unfold toSt; simp only [h1]; rfl
    have e2 : (toSt s).M d.2.1 = p.2 := by unfold toSt; simp only [h1]; rfl
    rw [e1, e2] at hle
    have hv' : (get s d.1).isSome = true := hv
    obtain ⟨q, hq⟩ := Option.isSome_iff_exists.1 hv'
    have e3 : (toSt s).L d.1 = q.1 := by unfold toSt; simp only [hq]; rfl
    have e4 : (toSt s).M d.1 = q.2 := by unfold toSt; simp only [hq]; rfl
    rw [e3, e4] at hle
    rw [hq]
    simp only
    rw [Bool.or_eq_false_iff, Bool.and_eq_false_iff, decide_eq_false_iff_not, decide_eq_false_iff_not, decide_eq_false_iff_not]
    unfold BF.le at hle
    omega
theorem done_chs : ∀ (ds : List D) (s : S), Done ds s → chs s ds = false
  | [], _, _ => rfl
  | d :: ds, s, h => by
    unfold chs
    have h0 := h d (List.mem_cons_self ..)
    have e : relax s d = s := by unfold relax; rw [h0]; rfl
    rw [h0, e, done_chs ds s (fun x hx => h x (List.mem_cons_of_mem _ hx))]; rfl
/-- The start: only t is known. -/
def start (n t : Nat) : S := (List.replicate n none).set t (some (0, 0))
theorem start_length (n t : Nat) : (start n t).length = n := by simp [start]
theorem start_ok (ds : List D) {n t : Nat} (h : t < n) : Ok ds t (start n t) := by
  have hg : ∀ u, get (start n t) u = if u = t then some (0, 0) else none := by
    intro u
    unfold start
    rw [get_set (by simpa using h)]
    by_cases c : u = t
    · rw [if_pos c, if_pos c]
    · rw [if_neg c, if_neg c]
      unfold get
      rw [List.getD_eq_getElem?_getD]
      by_cases e : u < n
      · rw [List.getElem?_replicate, if_pos e]; rfl
      · rw [List.getElem?_eq_none (by simp; omega)]; rfl
  refine ⟨by rw [hg, if_pos rfl], fun v p hp => ?_⟩
  rw [hg] at hp
  by_cases c : v = t
  · rw [if_pos c] at hp
    have := (Option.some.inj hp).symm
    subst this c
    exact .nil
  · rw [if_neg c] at hp; cases hp
def iter (ds : List D) (s : S) : Nat → S
  | 0 => s
  | r + 1 => round (iter ds s r) ds
theorem iter_length (ds : List D) (s : S) : ∀ r, (iter ds s r).length = s.length
  | 0 => rfl
  | r + 1 => by show (round (iter ds s r) ds).length = _; rw [round_length, iter_length ds s r]
theorem W_mem {ds : List D} {n t : Nat} (ht : t < n) (h : ∀ d ∈ ds, d.1 < n) : ∀ {a l m : Nat}, BF.W (adj ds) t a l m → a ∈ List.range n
  | _, _, _, .nil => List.mem_range.2 ht
  | _, _, _, .cons ha _ => List.mem_range.2 (h _ ha)
theorem iter_ok {ds : List D} {t : Nat} {s : S} (h : Ok ds t s) (hl : ∀ d ∈ ds, d.1 < s.length) : ∀ r, Ok ds t (iter ds s r)
  | 0 => h
  | r + 1 => round_ok ds _ (iter_ok h hl r) (fun _ h => h) (fun d hd => by rw [iter_length]; exact hl d hd)
theorem iter_done {ds : List D} {t n : Nat} (hn : t < n) (hl : ∀ d ∈ ds, d.1 < n) (hp : ∀ d ∈ ds, 0 < d.2.2) (r : Nat) (hr : n ≤ r + 1) : Done ds (iter ds (start n t) r) := by
  have hl' : ∀ d ∈ ds, d.1 < (start n t).length := by rw [start_length]; exact hl
  refine fix_done (BF.rounds_fix (nodes := List.range n) (t := t) (fun a b e h => hp _ h) (fun a l m h => W_mem hn hl h) (fun r => toSt (iter ds (start n t) r)) (fun r => ok_inv (iter_ok (start_ok ds hn) hl' r)) (fun r => ?_) r (by simpa using hr))
  exact round_round ds _ (fun d hd => by rw [iter_length]; exact hl' d hd)
/-- Two lists that are done are one, whatever the steps' order. -/
theorem done_unique {ds ds' : List D} (he : ∀ d, d ∈ ds ↔ d ∈ ds') {t : Nat} {s s' : S} (h : Ok ds t s) (hd : Done ds s) (h' : Ok ds' t s') (hd' : Done ds' s') (hl : s.length = s'.length) : s = s' := by
  have hok : Ok ds t s' := ⟨h'.src, fun v p hp => by
    have := h'.walk v p hp
    have e : adj ds' = adj ds := by funext a b c; exact propext (he (a, b, c)).symm
    rw [e] at this; exact this⟩
  have hdd : Done ds s' := fun d hx => hd' d ((he d).1 hx)
  have hu := fun v => BF.unique (ok_inv h) (done_fix hd) (ok_inv hok) (done_fix hdd) v
  have hg : ∀ v, get s v = get s' v := by
    intro v
    obtain ⟨h1, h2⟩ := hu v
    have h1' : (get s v).isSome = true ↔ (get s' v).isSome = true := h1
    cases ha : get s v with
    | none =>
      cases hb : get s' v with
      | none => rfl
      | some q => rw [ha, hb] at h1'; simp at h1'
    | some p =>
      cases hb : get s' v with
      | none => rw [ha, hb] at h1'; simp at h1'
      | some q =>
        have h3 := h2 (by show (get s v).isSome = true; rw [ha]; rfl)
        unfold toSt at h3
        simp only [ha, hb, Option.getD_some] at h3
        obtain ⟨a, b⟩ := p
        obtain ⟨c, d⟩ := q
        simp only at h3
        rw [h3.1, h3.2]
  apply List.ext_getElem hl
  intro i h1 h2
  have := hg i
  unfold get at this
  rw [List.getD_eq_getElem?_getD, List.getD_eq_getElem?_getD, List.getElem?_eq_getElem h1, List.getElem?_eq_getElem h2] at this
  exact this
/-- Bounds. -/
def Bd (s : S) (c : Nat) : Prop := ∀ v p, get s v = some p → p.1 ≤ 100000 * c ∧ p.2 ≤ c
theorem relax_bd {s : S} {c : Nat} (h : Bd s c) {d : D} (hl : d.1 < s.length) (hd : d.2.2 ≤ 100000) : Bd (relax s d) (c + 1) := by
  intro v p hp
  unfold relax at hp
  by_cases e : ch s d = true
  · rw [if_pos e, get_set hl] at hp
    by_cases e2 : v = d.1
    · rw [if_pos e2] at hp
      have := (Option.some.inj hp).symm
      subst this
      cases h1 : get s d.2.1 with
      | none => unfold ch at e; rw [h1] at e; simp at e
      | some q =>
        have := h _ _ h1
        simp only [Option.getD_some]
        omega
    · rw [if_neg e2] at hp; have := h v p hp; omega
  · rw [if_neg e] at hp; have := h v p hp; omega
theorem round_bd : ∀ (ds : List D) (s : S) (c : Nat), Bd s c → (∀ d ∈ ds, d.1 < s.length) → (∀ d ∈ ds, d.2.2 ≤ 100000) → Bd (round s ds) (c + ds.length)
  | [], s, c, h, _, _ => h
  | d :: ds, s, c, h, h1, h2 => by
    have := round_bd ds (relax s d) (c + 1) (relax_bd h (h1 d (List.mem_cons_self ..)) (h2 d (List.mem_cons_self ..))) (fun x hx => by rw [relax_length]; exact h1 x (List.mem_cons_of_mem _ hx)) (fun x hx => h2 x (List.mem_cons_of_mem _ hx))
    show Bd (round (relax s d) ds) (c + (ds.length + 1))
    rw [show c + (ds.length + 1) = c + 1 + ds.length by omega]
    exact this
theorem start_bd (n t : Nat) (h : t < n) : Bd (start n t) 0 := by
  intro v p hp
  unfold start at hp
  rw [get_set (by simpa using h)] at hp
  by_cases c : v = t
  · rw [if_pos c] at hp
    have := (Option.some.inj hp).symm
    subst this
    exact ⟨Nat.le_refl _, Nat.le_refl _⟩
  · rw [if_neg c] at hp
    unfold get at hp
    rw [List.getD_eq_getElem?_getD] at hp
    by_cases e : v < n
    · rw [List.getElem?_replicate, if_pos e] at hp; cases hp
    · rw [List.getElem?_eq_none (by simp; omega)] at hp; cases hp
theorem iter_bd {ds : List D} {n t : Nat} (hn : t < n) (hl : ∀ d ∈ ds, d.1 < n) (hp : ∀ d ∈ ds, d.2.2 ≤ 100000) : ∀ r, Bd (iter ds (start n t) r) (ds.length * r)
  | 0 => start_bd n t hn
  | r + 1 => by
    have := round_bd ds _ _ (iter_bd hn hl hp r) (fun d hd => by rw [iter_length, start_length]; exact hl d hd) hp
    rw [Nat.mul_succ]; exact this
end BL
/-! Labels: the least node of each part. -/
namespace LB
open BF
def lg (s : List Nat) (v : Nat) : Nat := s.getD v 0
theorem lg_set {s : List Nat} {v : Nat} (h : v < s.length) (x u : Nat) : lg (s.set v x) u = if u = v then x else lg s u := by
  unfold lg
  by_cases c : u = v
  · subst c
    rw [if_pos rfl, List.getD_eq_getElem?_getD, List.getElem?_set_self h]; rfl
  · rw [if_neg c, List.getD_eq_getElem?_getD, List.getElem?_set_ne (fun e => c e.symm), List.getD_eq_getElem?_getD]
def low (s : List Nat) (e : Nat × Nat) : Nat := min (lg s e.1) (lg s e.2)
def chg (s : List Nat) (e : Nat × Nat) : Bool := decide (lg s e.1 ≠ low s e) || decide (lg s e.2 ≠ low s e)
def step (s : List Nat) (e : Nat × Nat) : List Nat := if chg s e = true then (s.set e.1 (low s e)).set e.2 (low s e) else s
theorem step_length (s : List Nat) (e : Nat × Nat) : (step s e).length = s.length := by unfold step; split <;> simp
theorem sum_set : ∀ (s : List Nat) (v x : Nat), v < s.length → (s.set v x).sum + lg s v = s.sum + x
  | [], v, x, h => by simp at h
  | a :: s, 0, x, _ => by simp [lg]; omega
  | a :: s, v + 1, x, h => by
    have := sum_set s v x (by simpa using h)
    have e : lg (a :: s) (v + 1) = lg s v := by unfold lg; simp
    rw [e]
    simp only [List.set_cons_succ, List.sum_cons]
    omega
theorem step_sum {s : List Nat} {e : Nat × Nat} (h1 : e.1 < s.length) (h2 : e.2 < s.length) (hc : chg s e = true) : (step s e).sum < s.sum := by
  unfold step
  rw [if_pos hc]
  have a1 := sum_set s e.1 (low s e) h1
  have a2 := sum_set (s.set e.1 (low s e)) e.2 (low s e) (by simpa using h2)
  rw [lg_set h1] at a2
  unfold chg at hc
  simp only [Bool.or_eq_true, decide_eq_true_eq] at hc
  have hm1 : low s e ≤ lg s e.1 := Nat.min_le_left _ _
  have hm2 : low s e ≤ lg s e.2 := Nat.min_le_right _ _
  by_cases c : e.2 = e.1
  · rw [if_pos c] at a2
    have : lg s e.2 = lg s e.1 := by rw [c]
    omega
  · rw [if_neg c] at a2
    omega
def round (s : List Nat) (es : List (Nat × Nat)) : List Nat := es.foldl step s
def chgs : List Nat → List (Nat × Nat) → Bool
  | _, [] => false
  | s, e :: es => chg s e || chgs (step s e) es
theorem round_length : ∀ (es : List (Nat × Nat)) (s : List Nat), (round s es).length = s.length
  | [], _ => rfl
  | e :: es, s => by
    show (round (step s e) es).length = s.length
    rw [round_length es, step_length]
theorem step_same {s : List Nat} {e : Nat × Nat} (h : chg s e = false) : step s e = s := by unfold step; rw [h]; rfl
theorem step_sum_le {s : List Nat} {e : Nat × Nat} (h1 : e.1 < s.length) (h2 : e.2 < s.length) : (step s e).sum ≤ s.sum := by
  cases hc : chg s e with
  | true => exact Nat.le_of_lt (step_sum h1 h2 hc)
  | false => rw [step_same hc]; exact Nat.le_refl _
theorem round_sum_le : ∀ (es : List (Nat × Nat)) (s : List Nat), (∀ e ∈ es, e.1 < s.length ∧ e.2 < s.length) → (round s es).sum ≤ s.sum
  | [], _, _ => Nat.le_refl _
  | e :: es, s, h => by
    have := round_sum_le es (step s e) (fun x hx => by rw [step_length]; exact h x (List.mem_cons_of_mem _ hx))
    obtain ⟨h1, h2⟩ := h e (List.mem_cons_self ..)
    have := step_sum_le h1 h2
    show (round (step s e) es).sum ≤ _
    omega
theorem round_sum : ∀ (es : List (Nat × Nat)) (s : List Nat), (∀ e ∈ es, e.1 < s.length ∧ e.2 < s.length) → chgs s es = true → (round s es).sum < s.sum
  | [], _, _, h => by simp [chgs] at h
  | e :: es, s, h, hc => by
    obtain ⟨h1, h2⟩ := h e (List.mem_cons_self ..)
    have hl : ∀ x ∈ es, x.1 < (step s e).length ∧ x.2 < (step s e).length := fun x hx => by rw [step_length]; exact h x (List.mem_cons_of_mem _ hx)
    unfold chgs at hc
    rw [Bool.or_eq_true] at hc
    show (round (step s e) es).sum < _
    rcases hc with c | c
    · have := round_sum_le es (step s e) hl
      have := step_sum h1 h2 c
      omega
    · have := round_sum es (step s e) hl c
      have := step_sum_le h1 h2
      omega
theorem chgs_false : ∀ (es : List (Nat × Nat)) (s : List Nat), chgs s es = false → round s es = s ∧ ∀ e ∈ es, lg s e.1 = lg s e.2
  | [], _, _ => ⟨rfl, fun e h => by cases h⟩
  | e :: es, s, h => by
    unfold chgs at h
    rw [Bool.or_eq_false_iff] at h
    have h0 := step_same h.1
    rw [h0] at h
    obtain ⟨h1, h2⟩ := chgs_false es s h.2
    refine ⟨by show round (step s e) es = s; rw [h0, h1], fun x hx => ?_⟩
    rcases List.mem_cons.1 hx with rfl | hx
    · have := h.1
      unfold chg at this
      simp only [Bool.or_eq_false_iff, decide_eq_false_iff_not, ne_eq, Decidable.not_not] at this
      rw [this.1, ← this.2]
    · exact h2 x hx
/-- u and v are of one part. -/
def C (adj : Nat → Nat → Nat → Prop) (t v : Nat) : Prop := ∃ l m, W adj t v l m
theorem C.refl {adj : Nat → Nat → Nat → Prop} (t : Nat) : C adj t t := ⟨0, 0, .nil⟩
theorem C.trans {adj : Nat → Nat → Nat → Prop} {t u v : Nat} (h : C adj t u) (h' : C adj u v) : C adj t v := by
  obtain ⟨l, m, a⟩ := h
  obtain ⟨l', m', b⟩ := h'
  exact ⟨_, _, W.trans b a⟩
theorem C.symm {adj : Nat → Nat → Nat → Prop} (hs : ∀ a b e, adj a b e → adj b a e) {t v : Nat} (h : C adj t v) : C adj v t := by
  obtain ⟨l, m, a⟩ := h
  exact ⟨l, m, W.rev hs a⟩
theorem C.edge {adj : Nat → Nat → Nat → Prop} {v w e : Nat} (h : adj v w e) : C adj w v := ⟨_, _, W.cons h .nil⟩
structure Lab (adj : Nat → Nat → Nat → Prop) (s : List Nat) : Prop where
  conn : ∀ v, v < s.length → C adj (lg s v) v
  low : ∀ v, v < s.length → lg s v ≤ v
theorem step_lab {adj : Nat → Nat → Nat → Prop} (hs : ∀ a b e, adj a b e → adj b a e) {s : List Nat} {e : Nat × Nat} {x : Nat} (ha : adj e.1 e.2 x) (h1 : e.1 < s.length) (h2 : e.2 < s.length) (h : Lab adj s) : Lab adj (step s e) := by
  cases hc : chg s e with
  | false => rw [step_same hc]; exact h
  | true =>
    have hl := step_length s e
    unfold step at hl ⊢
    rw [if_pos hc] at hl ⊢
    have c1 := h.conn _ h1
    have c2 := h.conn _ h2
    have ce : C adj e.2 e.1 := C.edge ha
    have ce' : C adj e.1 e.2 := C.edge (hs _ _ _ ha)
    have hlow : C adj (LB.low s e) e.1 ∧ C adj (LB.low s e) e.2 := by
      rcases Nat.le_total (lg s e.1) (lg s e.2) with g | g
      · have : LB.low s e = lg s e.1 := Nat.min_eq_left g
        rw [this]; exact ⟨c1, C.trans c1 ce'⟩
      · have : LB.low s e = lg s e.2 := Nat.min_eq_right g
        rw [this]; exact ⟨C.trans c2 ce, c2⟩
    have hm1 : LB.low s e ≤ lg s e.1 := Nat.min_le_left _ _
    have hm2 : LB.low s e ≤ lg s e.2 := Nat.min_le_right _ _
    have l1 := h.low _ h1
    have l2 := h.low _ h2
    have hlen : ∀ v, v < ((s.set e.1 (LB.low s e)).set e.2 (LB.low s e)).length → v < s.length := fun v hv => by simpa using hv
    refine ⟨fun v hv => ?_, fun v hv => ?_⟩
    · rw [lg_set (by simpa using h2)]
      by_cases a : v = e.2
      · rw [if_pos a, a]; exact hlow.2
      · rw [if_neg a, lg_set h1]
        by_cases b : v = e.1
        · rw [if_pos b, b]; exact hlow.1
        · rw [if_neg b]; exact h.conn v (hlen v hv)
    · rw [lg_set (by simpa using h2)]
      by_cases a : v = e.2
      · rw [if_pos a, a]; omega
      · rw [if_neg a, lg_set h1]
        by_cases b : v = e.1
        · rw [if_pos b, b]; omega
        · rw [if_neg b]; exact h.low v (hlen v hv)
theorem round_lab {adj : Nat → Nat → Nat → Prop} (hs : ∀ a b e, adj a b e → adj b a e) : ∀ (es : List (Nat × Nat)) (s : List Nat), (∀ e ∈ es, (∃ x, adj e.1 e.2 x) ∧ e.1 < s.length ∧ e.2 < s.length) → Lab adj s → Lab adj (round s es)
  | [], s, _, h => h
  | e :: es, s, hh, h => by
    obtain ⟨⟨x, hx⟩, h1, h2⟩ := hh e (List.mem_cons_self ..)
    exact round_lab hs es (step s e) (fun y hy => by rw [step_length]; exact hh y (List.mem_cons_of_mem _ hy)) (step_lab hs hx h1 h2 h)
theorem start_lab {adj : Nat → Nat → Nat → Prop} (n : Nat) : Lab adj (List.range n) := by
  have hg : ∀ v, v < n → lg (List.range n) v = v := fun v hv => by
    unfold lg
    rw [List.getD_eq_getElem?_getD, List.getElem?_range hv]; rfl
  refine ⟨fun v hv => ?_, fun v hv => ?_⟩
  · rw [hg v (by simpa using hv)]; exact C.refl v
  · rw [hg v (by simpa using hv)]; exact Nat.le_refl _
theorem same_of_W {adj : Nat → Nat → Nat → Prop} {s : List Nat} (hf : ∀ a b x, adj a b x → lg s a = lg s b) {t v l m : Nat} (h : W adj t v l m) : lg s v = lg s t := by
  induction h with
  | nil => rfl
  | cons ha _ ih => rw [hf _ _ _ ha, ih]
/-- Done: two nodes have one label just when one is reached from the other; a label is the least of its part. -/
theorem done_iff {adj : Nat → Nat → Nat → Prop} (hs : ∀ a b e, adj a b e → adj b a e) {s : List Nat} (h : Lab adj s) (hf : ∀ a b x, adj a b x → lg s a = lg s b) {u v : Nat} (hu : u < s.length) (hv : v < s.length) : lg s u = lg s v ↔ C adj u v := by
  constructor
  · intro e
    have h1 := h.conn _ hu
    have h2 := h.conn _ hv
    rw [e] at h1
    exact C.trans (C.symm hs h1) h2
  · rintro ⟨l, m, hw⟩
    exact (same_of_W hf hw).symm
theorem done_least {adj : Nat → Nat → Nat → Prop} {s : List Nat} (h : Lab adj s) (hf : ∀ a b x, adj a b x → lg s a = lg s b) {u v : Nat} (hu : u < s.length) (hc : C adj v u) : lg s v ≤ u := by
  obtain ⟨l, m, hw⟩ := hc
  rw [← same_of_W hf hw]
  exact h.low _ hu
end LB
/-! The least walks and the least nodes themselves, whoever finds them. -/
namespace CN
open BF BL LB
open Classical in
noncomputable def dist (A : Nat → Nat → Nat → Prop) (t v : Nat) : Option (Nat × Nat) := if h : ∃ l m, W A t v l m then some (Classical.choose (BF.least h), Classical.choose (Classical.choose_spec (BF.least h))) else none
theorem dist_some {A : Nat → Nat → Nat → Prop} {t v : Nat} {p : Nat × Nat} (h : dist A t v = some p) : W A t v p.1 p.2 ∧ ∀ l m, W A t v l m → le p.1 p.2 l m := by
  unfold dist at h
  split at h
  · rename_i c
    have := (Option.some.inj h).symm
    subst this
    exact Classical.choose_spec (Classical.choose_spec (BF.least c))
  · cases h
theorem dist_none {A : Nat → Nat → Nat → Prop} {t v : Nat} (h : dist A t v = none) : ¬ C A t v := by
  unfold dist at h
  split at h
  · cases h
  · rename_i c; exact c
theorem dist_of {A : Nat → Nat → Nat → Prop} {t v : Nat} (h : C A t v) : ∃ p, dist A t v = some p := by
  cases e : dist A t v with
  | none => exact absurd h (dist_none e)
  | some p => exact ⟨p, rfl⟩
theorem dist_isSome {A : Nat → Nat → Nat → Prop} {t v : Nat} : (dist A t v).isSome = true ↔ C A t v := by
  constructor
  · intro h
    obtain ⟨p, hp⟩ := Option.isSome_iff_exists.1 h
    exact ⟨_, _, (dist_some hp).1⟩
  · intro h
    obtain ⟨p, hp⟩ := dist_of h
    rw [hp]; rfl
noncomputable def bestL (A : Nat → Nat → Nat → Prop) (n t : Nat) : S := (List.range n).map (dist A t)
theorem bestL_length (A : Nat → Nat → Nat → Prop) (n t : Nat) : (bestL A n t).length = n := by simp [bestL]
theorem bestL_get {A : Nat → Nat → Nat → Prop} {n t v : Nat} (h : v < n) : get (bestL A n t) v = dist A t v := by
  unfold BL.get bestL
  rw [List.getD_eq_getElem?_getD, List.getElem?_map, List.getElem?_range h]; rfl
theorem best_eq {ds : List D} {t n : Nat} {s : S} (h : Ok ds t s) (hd : Done ds s) (hn : s.length = n) : s = bestL (adj ds) n t := by
  apply List.ext_getElem (by rw [bestL_length, hn])
  intro i h1 h2
  have hg : get s i = dist (adj ds) t i := by
    cases e : get s i with
    | some p =>
      have hw := h.walk i p e
      obtain ⟨q, hq⟩ := dist_of ⟨_, _, hw⟩
      obtain ⟨g1, g2⟩ := dist_some hq
      have a1 := g2 _ _ hw
      have a2 := (best_of_fix (ok_inv h) (done_fix hd) g1).2
      unfold toSt at a2
      simp only [e, Option.getD_some] at a2
      rw [hq]
      obtain ⟨x, y⟩ := p
      obtain ⟨x', y'⟩ := q
      unfold le at a1 a2
      simp only at a1 a2
      have : x = x' := by omega
      have : y = y' := by omega
      subst x' y'; rfl
    | none =>
      cases e2 : dist (adj ds) t i with
      | none => rfl
      | some q =>
        have hk : (get s i).isSome = true := (best_of_fix (ok_inv h) (done_fix hd) (dist_some e2).1).1
        rw [e] at hk; cases hk
  have hb := bestL_get (A := adj ds) (n := n) (t := t) (v := i) (by omega)
  rw [← hg] at hb
  unfold BL.get at hb
  rw [List.getD_eq_getElem?_getD, List.getD_eq_getElem?_getD, List.getElem?_eq_getElem h1, List.getElem?_eq_getElem h2] at hb
  exact hb.symm
/-- The best list is done. -/
theorem bestL_ok {ds : List D} {n t : Nat} (ht : t < n) (hl : ∀ d ∈ ds, d.1 < n) (hp : ∀ d ∈ ds, 0 < d.2.2) (hq : ∀ d ∈ ds, d.2.2 ≤ 100000) : Ok ds t (bestL (adj ds) n t) ∧ Done ds (bestL (adj ds) n t) ∧ Bd (bestL (adj ds) n t) (ds.length * n) := by
  have hlen : (iter ds (BL.start n t) n).length = n := by rw [iter_length, BL.start_length]
  have h1 : Ok ds t (iter ds (BL.start n t) n) := iter_ok (start_ok ds ht) (by rw [BL.start_length]; exact hl) n
  have h2 := iter_done ht hl hp n (by omega)
  have e := best_eq h1 h2 hlen
  rw [← e]
  exact ⟨h1, h2, iter_bd ht hl hq n⟩
noncomputable def lowest (A : Nat → Nat → Nat → Prop) (v : Nat) : Nat := Classical.choose (BF.exists_min (P := fun u => C A u v) ⟨v, C.refl v⟩)
theorem lowest_C (A : Nat → Nat → Nat → Prop) (v : Nat) : C A (lowest A v) v := (Classical.choose_spec (BF.exists_min (P := fun u => C A u v) ⟨v, C.refl v⟩)).1
theorem lowest_le {A : Nat → Nat → Nat → Prop} {u v : Nat} (h : C A u v) : lowest A v ≤ u := (Classical.choose_spec (BF.exists_min (P := fun u => C A u v) ⟨v, C.refl v⟩)).2 u h
theorem lowest_iff {A : Nat → Nat → Nat → Prop} (hs : ∀ a b e, A a b e → A b a e) {u v : Nat} : lowest A u = lowest A v ↔ C A u v := by
  constructor
  · intro e
    have h1 := lowest_C A u
    rw [e] at h1
    exact C.trans (C.symm hs h1) (lowest_C A v)
  · intro h
    have h1 := lowest_le (C.trans (lowest_C A v) (C.symm hs h))
    have h2 := lowest_le (C.trans (lowest_C A u) h)
    omega
noncomputable def partsL (A : Nat → Nat → Nat → Prop) (n : Nat) : List Nat := (List.range n).map (lowest A)
theorem partsL_length (A : Nat → Nat → Nat → Prop) (n : Nat) : (partsL A n).length = n := by simp [partsL]
theorem partsL_at {A : Nat → Nat → Nat → Prop} {n v : Nat} (h : v < n) : lg (partsL A n) v = lowest A v := by
  unfold lg partsL
  rw [List.getD_eq_getElem?_getD, List.getElem?_map, List.getElem?_range h]; rfl
theorem W_ends {A : Nat → Nat → Nat → Prop} {n : Nat} (hl : ∀ a b e, A a b e → a < n) {t v l m : Nat} (h : W A t v l m) (ht : t < n) : v < n := by
  cases h with
  | nil => exact ht
  | cons ha _ => exact hl _ _ _ ha
theorem parts_eq {A : Nat → Nat → Nat → Prop} (hs : ∀ a b e, A a b e → A b a e) {n : Nat} (hl : ∀ a b e, A a b e → a < n) {s : List Nat} (h : Lab A s) (hf : ∀ a b x, A a b x → lg s a = lg s b) (hn : s.length = n) : s = partsL A n := by
  apply List.ext_getElem (by rw [partsL_length, hn])
  intro i h1 h2
  have hg : lg s i = lowest A i := by
    have hc : C A (lowest A i) i := lowest_C A i
    obtain ⟨l, m, hw⟩ := C.symm hs hc
    have hin : lowest A i < s.length := by rw [hn]; exact W_ends hl hw (by omega)
    have a1 := done_least h hf hin ⟨l, m, hw⟩
    have a2 := lowest_le (h.conn i h1)
    omega
  have hb := partsL_at (A := A) (n := n) (v := i) (by omega)
  rw [← hg] at hb
  unfold lg at hb
  rw [List.getD_eq_getElem?_getD, List.getD_eq_getElem?_getD, List.getElem?_eq_getElem h1, List.getElem?_eq_getElem h2] at hb
  exact hb.symm
end CN
/-! A right net as a graph. -/
def sd (e : S54) : List BL.D := [(e.f0.toNat, e.f1.toNat, e.f2.toNat), (e.f1.toNat, e.f0.toNat, e.f2.toNat)]
def si (e : S54) : List BL.D := [(e.f1.toNat, e.f0.toNat, e.f2.toNat), (e.f0.toNat, e.f1.toNat, e.f2.toNat)]
def dsS (es : List S54) : List BL.D := es.flatMap sd
def dsI (es : List S54) : List BL.D := es.flatMap si
def pairs (es : List S54) : List (Nat × Nat) := es.map (fun e => (e.f0.toNat, e.f1.toNat))
abbrev adjE (es : List S54) : Nat → Nat → Nat → Prop := BL.adj (dsS es)
theorem ds_mem (es : List S54) (d : BL.D) : d ∈ dsS es ↔ d ∈ dsI es := by
  unfold dsS dsI sd si
  simp only [List.mem_flatMap, List.mem_cons, List.not_mem_nil, or_false]
  constructor
  · rintro ⟨e, he, h | h⟩
    · exact ⟨e, he, Or.inr h⟩
    · exact ⟨e, he, Or.inl h⟩
  · rintro ⟨e, he, h | h⟩
    · exact ⟨e, he, Or.inr h⟩
    · exact ⟨e, he, Or.inl h⟩
theorem adjI (es : List S54) : BL.adj (dsI es) = adjE es := by
  funext a b c
  exact propext (ds_mem es (a, b, c)).symm
theorem adj_iff (es : List S54) (v w x : Nat) : adjE es v w x ↔ ∃ e ∈ es, e.f2.toNat = x ∧ (e.f0.toNat = v ∧ e.f1.toNat = w ∨ e.f1.toNat = v ∧ e.f0.toNat = w) := by
  unfold adjE BL.adj dsS sd
  simp only [List.mem_flatMap, List.mem_cons, List.not_mem_nil, or_false, Prod.mk.injEq]
  constructor
  · rintro ⟨e, he, ⟨h1, h2, h3⟩ | ⟨h1, h2, h3⟩⟩
    · exact ⟨e, he, h3.symm, Or.inl ⟨h1.symm, h2.symm⟩⟩
    · exact ⟨e, he, h3.symm, Or.inr ⟨h1.symm, h2.symm⟩⟩
  · rintro ⟨e, he, h3, ⟨h1, h2⟩ | ⟨h1, h2⟩⟩
    · exact ⟨e, he, Or.inl ⟨h1.symm, h2.symm, h3.symm⟩⟩
    · exact ⟨e, he, Or.inr ⟨h1.symm, h2.symm, h3.symm⟩⟩
theorem adj_symm (es : List S54) (a b x : Nat) (h : adjE es a b x) : adjE es b a x := by
  rw [adj_iff] at h ⊢
  obtain ⟨e, he, h3, h4⟩ := h
  exact ⟨e, he, h3, h4.symm.imp And.symm And.symm⟩
theorem edge_in {n : Int} {es : List S54} (hb : netB n es = true) {e : S54} (he : e ∈ es) : e.f0.toNat < n.toNat ∧ e.f1.toNat < n.toNat ∧ e.f0.toNat ≠ e.f1.toNat ∧ (1 ≤ e.f2.toNat ∧ e.f2.toNat ≤ 100000) ∧ (0 ≤ e.f0 ∧ 0 ≤ e.f1 ∧ 0 ≤ e.f2 ∧ e.f0 < n ∧ e.f1 < n) := by
  obtain ⟨_, _, h⟩ := netB_parts hb
  have := h e he
  omega
theorem ds_in {n : Int} {es : List S54} (hb : netB n es = true) : (∀ d ∈ dsS es, d.1 < n.toNat) ∧ (∀ d ∈ dsS es, 0 < d.2.2) ∧ (∀ d ∈ dsS es, d.2.2 ≤ 100000) := by
  have key : ∀ d ∈ dsS es, d.1 < n.toNat ∧ 0 < d.2.2 ∧ d.2.2 ≤ 100000 := by
    intro d hd
    unfold dsS sd at hd
    simp only [List.mem_flatMap, List.mem_cons, List.not_mem_nil, or_false] at hd
    obtain ⟨e, he, h⟩ := hd
    have := edge_in hb he
    rcases h with rfl | rfl <;> simp only <;> omega
  exact ⟨fun d hd => (key d hd).1, fun d hd => (key d hd).2.1, fun d hd => (key d hd).2.2⟩
theorem dsI_in {n : Int} {es : List S54} (hb : netB n es = true) : (∀ d ∈ dsI es, d.1 < n.toNat) ∧ (∀ d ∈ dsI es, 0 < d.2.2) ∧ (∀ d ∈ dsI es, d.2.2 ≤ 100000) := by
  obtain ⟨h1, h2, h3⟩ := ds_in hb
  exact ⟨fun d hd => h1 d ((ds_mem es d).2 hd), fun d hd => h2 d ((ds_mem es d).2 hd), fun d hd => h3 d ((ds_mem es d).2 hd)⟩
theorem adj_lt {n : Int} {es : List S54} (hb : netB n es = true) (a b x : Nat) (h : adjE es a b x) : a < n.toNat := (ds_in hb).1 _ h
theorem dsS_length (es : List S54) : (dsS es).length = 2 * es.length := by
  unfold dsS
  induction es with
  | nil => rfl
  | cons e es ih =>
    rw [List.flatMap_cons, List.length_append, ih]
    show 2 + 2 * es.length = 2 * (es.length + 1)
    omega
theorem dsI_length (es : List S54) : (dsI es).length = 2 * es.length := by
  unfold dsI
  induction es with
  | nil => rfl
  | cons e es ih =>
    rw [List.flatMap_cons, List.length_append, ih]
    show 2 + 2 * es.length = 2 * (es.length + 1)
    omega
def encN (s : List Nat) : List Int := s.map (fun (n : Nat) => (n : Int))
theorem encN_length (s : List Nat) : (encN s).length = s.length := by simp [encN]
theorem encN_set (s : List Nat) (v x : Nat) : encN (s.set v x) = (encN s).set v (x : Int) := by simp [encN, List.map_set]
theorem rd_encN (s : List Nat) (v : Nat) : rd (encN s) (v : Int) = (LB.lg s v : Int) := by
  unfold rd encN LB.lg
  rw [Int.toNat_natCast, List.getD_eq_getElem?_getD, List.getElem?_map, List.getD_eq_getElem?_getD]
  cases s[v]? <;> rfl
theorem nat_of {x : Int} (h : 0 ≤ x) : x = ((x.toNat : Nat) : Int) := (Int.toNat_of_nonneg h).symm
/-! The way down a list of least distances. -/
def oth (e : S54) (a : Nat) : Nat := if e.f0.toNat = a then e.f1.toNat else e.f0.toNat
def inc1 (e : S54) (a : Nat) : Bool := decide (e.f0.toNat = a) || decide (e.f1.toNat = a)
def tightB (s : BL.S) (a : Nat) (e : S54) : Bool := inc1 e a && (match BL.get s (oth e a), BL.get s a with
  | some p, some q => decide (p.1 + e.f2.toNat = q.1) && decide (p.2 + 1 = q.2)
  | _, _ => false)
def findT (s : BL.S) (a : Nat) : List S54 → Nat → Option (Nat × Nat)
  | [], _ => none
  | e :: es, j => if tightB s a e = true then some (j, oth e a) else findT s a es (j + 1)
def pathL (s : BL.S) (es : List S54) : Nat → Nat → List Nat
  | 0, _ => []
  | m + 1, a => match findT s a es 0 with
    | none => []
    | some (j, b) => j :: pathL s es m b
theorem pathL_length (s : BL.S) (es : List S54) : ∀ (m a : Nat), (pathL s es m a).length ≤ m
  | 0, _ => Nat.le_refl _
  | m + 1, a => by
    unfold pathL
    cases findT s a es 0 with
    | none => simp
    | some x => have := pathL_length s es m x.2; simp only [List.length_cons]; omega
theorem findT_some {s : BL.S} {a : Nat} : ∀ (es : List S54) (j : Nat), (∃ e ∈ es, tightB s a e = true) → ∃ i b, findT s a es j = some (i, b)
  | [], _, h => by obtain ⟨e, he, _⟩ := h; cases he
  | e :: es, j, h => by
    unfold findT
    by_cases c : tightB s a e = true
    · rw [if_pos c]; exact ⟨_, _, rfl⟩
    · rw [if_neg c]
      refine findT_some es (j + 1) ?_
      obtain ⟨x, hx, hy⟩ := h
      rcases List.mem_cons.1 hx with rfl | hx
      · exact absurd hy c
      · exact ⟨x, hx, hy⟩
theorem findT_is {s : BL.S} {a : Nat} : ∀ (es : List S54) (j i b : Nat), findT s a es j = some (i, b) → ∃ e ∈ es, tightB s a e = true ∧ b = oth e a ∧ j ≤ i ∧ es[i - j]? = some e
  | [], _, _, _, h => by cases h
  | e :: es, j, i, b, h => by
    unfold findT at h
    by_cases c : tightB s a e = true
    · rw [if_pos c] at h
      have := Option.some.inj h
      injection this with h1 h2
      exact ⟨e, List.mem_cons_self .., c, h2.symm, by omega, by rw [← h1, Nat.sub_self]; rfl⟩
    · rw [if_neg c] at h
      obtain ⟨x, hx, h1, h2, h3, h4⟩ := findT_is es (j + 1) i b h
      refine ⟨x, List.mem_cons_of_mem _ hx, h1, h2, by omega, ?_⟩
      rw [show i - j = (i - (j + 1)) + 1 by omega, List.getElem?_cons_succ]; exact h4
theorem tight_parts {s : BL.S} {a : Nat} {e : S54} (h : tightB s a e = true) : inc1 e a = true ∧ ∃ p q, BL.get s (oth e a) = some p ∧ BL.get s a = some q ∧ p.1 + e.f2.toNat = q.1 ∧ p.2 + 1 = q.2 := by
  unfold tightB at h
  rw [Bool.and_eq_true] at h
  refine ⟨h.1, ?_⟩
  have h2 := h.2
  cases hp : BL.get s (oth e a) with
  | none => rw [hp] at h2; simp at h2
  | some p =>
    cases hq : BL.get s a with
    | none => rw [hp, hq] at h2; simp at h2
    | some q =>
      rw [hp, hq] at h2
      simp only [Bool.and_eq_true, decide_eq_true_eq] at h2
      exact ⟨p, q, rfl, rfl, h2.1, h2.2⟩
/-- What is done has a tight edge at every known node but the end. -/
theorem tight_edge {n : Int} {es : List S54} (hb : netB n es = true) {t : Nat} (ht : t < n.toNat) {a : Nat} {q : Nat × Nat} (hq : BL.get (CN.bestL (adjE es) n.toNat t) a = some q) (hat : a ≠ t) : ∃ e ∈ es, tightB (CN.bestL (adjE es) n.toNat t) a e = true := by
  obtain ⟨d1, d2, d3⟩ := ds_in hb
  obtain ⟨o1, o2, _⟩ := CN.bestL_ok ht d1 d2 d3
  generalize CN.bestL (adjE es) n.toNat t = s at *
  have hk : (BL.toSt s).K a := by show (BL.get s a).isSome = true; rw [hq]; rfl
  obtain ⟨w, x, hadj, hkw, h1, h2⟩ := BF.tight (BL.ok_inv o1) (BL.done_fix o2) hk hat
  have hkw' : (BL.get s w).isSome = true := hkw
  obtain ⟨p, hp⟩ := Option.isSome_iff_exists.1 hkw'
  unfold BL.toSt at h1 h2
  simp only [hp, hq, Option.getD_some] at h1 h2
  obtain ⟨e, he, hx, hend⟩ := (adj_iff es a w x).1 hadj
  have hne := (edge_in hb he).2.2.1
  refine ⟨e, he, ?_⟩
  have ho : oth e a = w := by
    unfold oth
    rcases hend with ⟨g1, g2⟩ | ⟨g1, g2⟩
    · rw [if_pos g1, g2]
    · rw [if_neg (fun h => hne (by rw [h, g1])), g2]
  have hi : inc1 e a = true := by
    unfold inc1
    rcases hend with ⟨g1, g2⟩ | ⟨g1, g2⟩
    · rw [decide_eq_true g1]; rfl
    · rw [decide_eq_true g1]; simp
  unfold tightB
  rw [hi, ho, hp, hq, hx]
  simp only [Bool.true_and, Bool.and_eq_true, decide_eq_true_eq]
  exact ⟨h1, h2⟩
/-- Known without an edge: the end itself. -/
theorem zero_end {n : Int} {es : List S54} (hb : netB n es = true) {t : Nat} (ht : t < n.toNat) {a : Nat} {q : Nat × Nat} (hq : BL.get (CN.bestL (adjE es) n.toNat t) a = some q) : q.2 = 0 ↔ a = t := by
  obtain ⟨d1, d2, d3⟩ := ds_in hb
  obtain ⟨o1, o2, _⟩ := CN.bestL_ok ht d1 d2 d3
  constructor
  · intro h0
    have hw := o1.walk a q hq
    rw [h0] at hw
    generalize q.1 = l at hw
    generalize hz : (0 : Nat) = z at hw
    cases hw with
    | nil => rfl
    | cons _ _ => omega
  · rintro rfl
    rw [o1.src] at hq
    have := Option.some.inj hq
    rw [← this]
noncomputable def shortR (n : Int) (es : List S54) (a t : Int) : List Int × Int := if netB n es = true ∧ (0 ≤ a ∧ a ≤ n - 1) ∧ (0 ≤ t ∧ t ≤ n - 1) then (match CN.dist (adjE es) t.toNat a.toNat with
  | none => ([], -1)
  | some p => (encN (pathL (CN.bestL (adjE es) n.toNat t.toNat) es p.2 a.toNat), (p.1 : Int))) else ([], -1)
theorem shortR_length (n : Int) (es : List S54) (a t : Int) : (shortR n es a t).1.length ≤ 3600 := by
  unfold shortR
  split
  · rename_i h
    obtain ⟨n1, n2, _⟩ := netB_parts h.1
    obtain ⟨d1, d2, d3⟩ := ds_in h.1
    obtain ⟨_, _, o3⟩ := CN.bestL_ok (n := n.toNat) (t := t.toNat) (by omega) d1 d2 d3
    cases hd : CN.dist (adjE es) t.toNat a.toNat with
    | none => simp
    | some p =>
      simp only
      rw [encN_length]
      have h1 := pathL_length (CN.bestL (adjE es) n.toNat t.toNat) es p.2 a.toNat
      have h2 := o3 a.toNat p (by rw [CN.bestL_get (by omega)]; exact hd)
      rw [dsS_length] at h2
      have hmul : 2 * es.length * n.toNat ≤ 2 * 60 * 30 := Nat.mul_le_mul (by omega) (by omega)
      omega
  · simp
/-- The edges but the one at place k. -/
def dropL (k : Int) : Nat → List S54 → List S54
  | _, [] => []
  | i, x :: xs => (if (i : Int) = k then [] else [x]) ++ dropL k (i + 1) xs
theorem dropL_past (k : Int) : ∀ (i : Nat) (xs : List S54), k < (i : Int) → dropL k i xs = xs
  | _, [], _ => rfl
  | i, x :: xs, h => by
    simp only [dropL, if_neg (show ¬ (i : Int) = k by omega)]
    rw [dropL_past k (i + 1) xs (by omega)]; rfl
theorem dropL_eq : ∀ (xs : List S54) (i j : Nat), dropL ((i + j : Nat) : Int) i xs = xs.take j ++ xs.drop (j + 1)
  | [], i, j => by simp [dropL]
  | x :: xs, i, 0 => by
    simp only [dropL, Nat.add_zero, if_true, List.take_zero, List.nil_append]
    rw [dropL_past _ (i + 1) xs (by omega)]; simp
  | x :: xs, i, j + 1 => by
    simp only [dropL, if_neg (show ¬ (i : Int) = ((i + (j + 1) : Nat) : Int) by omega)]
    have := dropL_eq xs (i + 1) j
    rw [show i + 1 + j = i + (j + 1) by omega] at this
    rw [this]; simp
def cutL (es : List S54) (a : Nat) : List S54 := es.take a ++ es.drop (a + 1)
def cutR (n : Int) (es : List S54) (a : Int) : Int × List S54 := if netB n es = true ∧ (0 ≤ a ∧ a ≤ (es.length : Int) - 1) then (n, cutL es a.toNat) else (0, [])
theorem cutL_length {es : List S54} {a : Nat} (h : a < es.length) : (cutL es a).length = es.length - 1 := by
  unfold cutL
  rw [List.length_append, List.length_take, List.length_drop]; omega
theorem cutR_length (n : Int) (es : List S54) (a : Int) : (cutR n es a).2.length ≤ 60 := by
  unfold cutR
  split
  · rename_i h
    obtain ⟨_, n2, _⟩ := netB_parts h.1
    show (cutL es a.toNat).length ≤ 60
    rw [cutL_length (by omega)]; omega
  · simp
theorem cutL_net {n : Int} {es : List S54} (hb : netB n es = true) {a : Nat} (h : a < es.length) : netB n (cutL es a) = true := by
  have hb' := hb
  unfold netB at hb ⊢
  rw [Bool.and_eq_true, Bool.and_eq_true, decide_eq_true_eq, decide_eq_true_eq, List.all_eq_true] at hb ⊢
  refine ⟨hb.1, by rw [cutL_length h]; omega, fun e he => hb.2.2 e ?_⟩
  unfold cutL at he
  rcases List.mem_append.1 he with h1 | h1
  · exact List.mem_of_mem_take h1
  · exact List.mem_of_mem_drop h1
noncomputable def apartB (es : List S54) (j : Nat) : Bool := !(CN.dist (adjE (cutL es j)) (es.getD j z54).f0.toNat (es.getD j z54).f1.toNat).isSome
noncomputable def bridgeL (es : List S54) : List Nat := (List.range es.length).filter (apartB es)
noncomputable def bridgeR (n : Int) (es : List S54) : List Int := if netB n es = true then encN (bridgeL es) else []
theorem bridgeR_length {n : Int} {es : List S54} : (bridgeR n es).length ≤ 60 := by
  unfold bridgeR
  split
  · rename_i h
    obtain ⟨_, n2, _⟩ := netB_parts h
    rw [encN_length]
    have := List.length_filter_le (apartB es) (List.range es.length)
    rw [List.length_range] at this
    unfold bridgeL; omega
  · simp
theorem filter_next (p : Nat → Bool) (j : Nat) : (List.range (j + 1)).filter p = (List.range j).filter p ++ (if p j = true then [j] else []) := by
  rw [List.range_succ, List.filter_append]
  congr 1
  cases h : p j <;> simp [h]
theorem filter_short (p : Nat → Bool) (j : Nat) : (encN ((List.range j).filter p)).length ≤ j := by
  rw [encN_length]
  have := List.length_filter_le p (List.range j)
  rwa [List.length_range] at this
/-! The shortest way over a bridge uses it: a way that avoids the edge joins its ends without it. -/
theorem cutL_mem {es : List S54} {i j : Nat} {e : S54} (h : es[i]? = some e) (hne : i ≠ j) : e ∈ cutL es j := by
  unfold cutL
  rw [List.mem_append]
  rcases Nat.lt_or_ge i j with c | c
  · left
    exact List.mem_of_getElem? (i := i) (by rw [List.getElem?_take, if_pos c]; exact h)
  · right
    exact List.mem_of_getElem? (i := i - (j + 1)) (by rw [List.getElem?_drop, show j + 1 + (i - (j + 1)) = i by omega]; exact h)
theorem path_avoids {n : Int} {es : List S54} (hb : netB n es = true) {t : Nat} (ht : t < n.toNat) (j : Nat) : ∀ (m a : Nat) (q : Nat × Nat), BL.get (CN.bestL (adjE es) n.toNat t) a = some q → q.2 = m →
    j ∉ pathL (CN.bestL (adjE es) n.toNat t) es m a → LB.C (adjE (cutL es j)) t a := by
  intro m
  induction m with
  | zero =>
    intro a q hq hm _
    have e := (zero_end hb ht hq).1 hm
    subst e
    exact LB.C.refl _
  | succ m ih =>
    intro a q hq hm hj
    have hat : a ≠ t := fun h => by have := (zero_end hb ht hq).2 h; omega
    obtain ⟨i, b, hf⟩ := findT_some es 0 (tight_edge hb ht hq hat)
    obtain ⟨e, he, htight, hbo, _, hi⟩ := findT_is es 0 i b hf
    obtain ⟨hinc, p, q', hp, hq', h1, h2⟩ := tight_parts htight
    rw [hq] at hq'
    have := Option.some.inj hq'
    subst this
    rw [← hbo] at hp
    unfold pathL at hj
    rw [hf] at hj
    simp only [List.mem_cons, not_or] at hj
    have hC := ih b p hp (by omega) hj.2
    rw [Nat.sub_zero] at hi
    have hm' : e ∈ cutL es j := cutL_mem hi (Ne.symm hj.1)
    have hadj : adjE (cutL es j) b a e.f2.toNat := by
      rw [adj_iff]
      refine ⟨e, hm', rfl, ?_⟩
      unfold oth at hbo
      unfold inc1 at hinc
      rw [Bool.or_eq_true, decide_eq_true_eq, decide_eq_true_eq] at hinc
      by_cases c : e.f0.toNat = a
      · rw [if_pos c] at hbo; exact Or.inr ⟨hbo.symm, c⟩
      · rw [if_neg c] at hbo; exact Or.inl ⟨hbo.symm, hinc.resolve_left c⟩
    exact LB.C.trans hC (LB.C.symm (adj_symm _) (LB.C.edge hadj))
/-- The shortest way from end to end of a bridge has it. -/
theorem short_bridge {n : Int} {es : List S54} (hb : netB n es = true) {j : Nat} (hj : j < es.length) (hc : apartB es j = true) : j ∈ pathL (CN.bestL (adjE es) n.toNat (es.getD j z54).f1.toNat) es (((CN.dist (adjE es) (es.getD j z54).f1.toNat (es.getD j z54).f0.toNat).getD (0, 0)).2) (es.getD j z54).f0.toNat := by
  have hm : es.getD j z54 ∈ es := by
    rw [List.getD_eq_getElem?_getD, List.getElem?_eq_getElem hj]; exact List.getElem_mem _
  have hi := edge_in hb hm
  have hadj : adjE es (es.getD j z54).f0.toNat (es.getD j z54).f1.toNat (es.getD j z54).f2.toNat := by
    rw [adj_iff]; exact ⟨_, hm, rfl, Or.inl ⟨rfl, rfl⟩⟩
  obtain ⟨q, hq⟩ := CN.dist_of (LB.C.edge hadj)
  refine Decidable.byContradiction fun hno => ?_
  rw [hq, Option.getD_some] at hno
  have hC := path_avoids hb (by omega) j q.2 _ q (by rw [CN.bestL_get (by omega)]; exact hq) rfl hno
  unfold apartB at hc
  rw [CN.dist_isSome.2 (LB.C.symm (adj_symm _) hC)] at hc
  cases hc
theorem and255 (n : Int) : Go.bits .and .i64 n 255 = n % 256 := by
  have h255 : (BitVec.ofInt 64 255).toNat = 2 ^ 8 - 1 := by decide
  have key : (BitVec.ofInt 64 n &&& BitVec.ofInt 64 255).toNat = (n % ((2 ^ 64 : Nat) : Int)).toNat % 2 ^ 8 := by
    rw [BitVec.toNat_and, BitVec.toNat_ofInt, h255, Nat.and_two_pow_sub_one_eq_mod]
  show Go.IntKind.i64.wrap ((BitVec.ofInt 64 n &&& BitVec.ofInt 64 255).toNat : Nat) = n % 256
  rw [key, Go.IntKind.wrap_i64]
  omega
theorem new_loop (l : List Int) (hl : l.length ≤ 2000000) (m : Nat) : ∀ (j : Nat) (h : Int), l.length - j = m → j ≤ l.length → ∃ h', Ev (fun k => spec_l01New.l0 k l h (j : Int)) (l, 0, h') := by
  induction m with
  | zero =>
    intro j h h0 h1
    refine ⟨h, Ev.step (fun k => by rw [spec_l01New.l0]) ?_⟩
    simp only [if_neg (show ¬ (j : Int) < (l.length : Int) by omega)]
    exact ev_some
  | succ m ih =>
    intro j h h0 h1
    by_cases c : (j : Int) < 4000
    · obtain ⟨h', hh⟩ := ih (j + 1) (Go.bits .and .i64 (wrap64 ((wrap64 ((wrap64 (h * 137)) + (wrap64 (rd l (j : Int))))) + 11)) 1073741823) (by omega) (by omega)
      refine ⟨h', Ev.step (fun k => by rw [spec_l01New.l0]) ?_⟩
      simp only [if_pos (show (j : Int) < (l.length : Int) by omega), if_pos c, if_pos (show 0 ≤ (j : Int) by omega), nat_w (show j ≤ 9223372036854775806 by omega)]
      exact hh
    · refine ⟨h, Ev.step (fun k => by rw [spec_l01New.l0]) ?_⟩
      simp only [if_pos (show (j : Int) < (l.length : Int) by omega), if_neg c]
      exact ev_some
theorem new_ev (l : List Int) (hl : l.length ≤ 2000000) : ∃ h, Ev (fun k => spec_l01New.f k l) (l, 0, h) := by
  unfold spec_l01New.f
  obtain ⟨h, hh⟩ := new_loop l hl l.length 0 (wrap64 (75075 + (l.length : Int))) (by omega) (by omega)
  exact ⟨h, by simpa using hh⟩
/-- A place in the bytes of a draw. -/
def Pl (l : List Int) (i : Int) : Prop := 0 ≤ i ∧ i ≤ (l.length : Int)
theorem byte_ev (l : List Int) (hl : l.length ≤ 2000000) (i h : Int) (hi : Pl l i) : ∃ r i' h', spec_l01Byte.f l i h = some (r, i', h') ∧ (0 ≤ r ∧ r ≤ 255) ∧ Pl l i' := by
  unfold Pl at *
  unfold spec_l01Byte.f
  by_cases c : i < (l.length : Int)
  · simp only [if_pos c, if_pos hi.1, and255]
    refine ⟨_, _, _, rfl, by omega, ?_⟩
    rw [w64 (by omega) (by omega)]
    omega
  · simp only [if_neg c, and255]
    exact ⟨_, _, _, rfl, by omega, hi⟩
theorem below_ev (l : List Int) (hl : l.length ≤ 2000000) (i h : Int) (hi : Pl l i) (n : Int) (hn : n ≤ 16777216) : ∃ r i' h', spec_l01Below.f l i h n = some (r, i', h') ∧ (0 ≤ r ∧ (r < n ∨ r = 0)) ∧ Pl l i' := by
  unfold spec_l01Below.f
  by_cases c0 : n ≤ 0
  · simp only [if_pos c0]
    exact ⟨_, _, _, rfl, by omega, hi⟩
  · simp only [if_neg c0]
    by_cases c1 : n ≤ 256
    · obtain ⟨r, i', h', e, hr, hp⟩ := byte_ev l hl i h hi
      simp only [if_pos c1, e, Option.bind_some, if_neg (show ¬ n = 0 by omega)]
      refine ⟨_, _, _, rfl, ?_, hp⟩
      rw [Int.tmod_eq_emod_of_nonneg hr.1]
      have := Int.emod_nonneg r (show n ≠ 0 by omega)
      have := Int.emod_lt_of_pos r (show 0 < n by omega)
      omega
    · obtain ⟨r, i', h', e, hr, hp⟩ := byte_ev l hl i h hi
      obtain ⟨r2, i2, h2, e2, hr2, hp2⟩ := byte_ev l hl i' h' hp
      obtain ⟨r3, i3, h3, e3, hr3, hp3⟩ := byte_ev l hl i2 h2 hp2
      simp only [if_neg c1, e, e2, e3, Option.bind_some, if_neg (show ¬ n = 0 by omega)]
      refine ⟨_, _, _, rfl, ?_, hp3⟩
      rw [w64 (x := r * 65536) (by omega) (by omega), w64 (x := r2 * 256) (by omega) (by omega), w64 (x := r * 65536 + r2 * 256) (by omega) (by omega), w64 (x := r * 65536 + r2 * 256 + r3) (by omega) (by omega)]
      rw [Int.tmod_eq_emod_of_nonneg (by omega)]
      have := Int.emod_nonneg (r * 65536 + r2 * 256 + r3) (show n ≠ 0 by omega)
      have := Int.emod_lt_of_pos (r * 65536 + r2 * 256 + r3) (show 0 < n by omega)
      omega
/-- The same where n is above 0. -/
theorem below_pos (l : List Int) (hl : l.length ≤ 2000000) (i h : Int) (hi : Pl l i) (n : Int) (h0 : 0 < n) (hn : n ≤ 16777216) : ∃ r i' h', spec_l01Below.f l i h n = some (r, i', h') ∧ (0 ≤ r ∧ r < n) ∧ Pl l i' := by
  obtain ⟨r, i', h', e, hr, hp⟩ := below_ev l hl i h hi n hn
  exact ⟨r, i', h', e, by omega, hp⟩
theorem pl0 (l : List Int) : Pl l 0 := by unfold Pl; omega
theorem edgeB_of {n a b r s : Int} (ha : 0 ≤ a ∧ a < n) (hb : 0 ≤ b ∧ b < n) (hne : a ≠ b) (hr : 0 ≤ r ∧ r < 12) (hs : 0 ≤ s ∧ s < 40) : edgeB n ⟨a, b, wrap64 (100 * (wrap64 (1 + r))), wrap64 (5 + s)⟩ = true := by
  rw [w64 (x := 1 + r) (by omega) (by omega), w64 (x := 100 * (1 + r)) (by omega) (by omega), w64 (x := 5 + s) (by omega) (by omega)]
  unfold edgeB
  simp only [Bool.and_eq_true, decide_eq_true_eq, Bool.not_eq_true', decide_eq_false_iff_not]
  refine ⟨by omega, by omega, hne, by omega, by omega⟩
theorem draw_net_l1 (l : List Int) (hl : l.length ≤ 2000000) (n : Int) (hn : 2 ≤ n ∧ n ≤ 8) (m : Nat) : ∀ (acc : List S54) (i h : Int), m ≤ 8 → acc.length + m ≤ 20 → acc.all (edgeB n) = true → Pl l i →
    ∃ es i' h', Ev (fun k => spec_l02DrawRight.l1 k (m : Int) l i h n acc) (n, es, i', h') ∧ es.length ≤ 20 ∧ es.all (edgeB n) = true := by
  induction m with
  | zero =>
    intro acc i h _ h1 h2 _
    refine ⟨acc, i, h, Ev.step (fun k => by rw [spec_l02DrawRight.l1]) ?_, by omega, h2⟩
    simp only [if_neg (show ¬ ((0 : Nat) : Int) > 0 by omega)]
    exact ev_some
  | succ m ih =>
    intro acc i h h0 h1 h2 hi
    obtain ⟨a, i1, g1, e1, b1, p1⟩ := below_pos l hl i h hi n (by omega) (by omega)
    obtain ⟨b, i2, g2, e2, b2, p2⟩ := below_pos l hl i1 g1 p1 n (by omega) (by omega)
    have hw : wrap64 (((m + 1 : Nat) : Int) - 1) = (m : Int) := by rw [w64 (by omega) (by omega)]; omega
    by_cases c : a = b
    · obtain ⟨es, i', h', hev, q1, q2⟩ := ih acc i2 g2 (by omega) (by omega) h2 p2
      refine ⟨es, i', h', Ev.step (fun k => by rw [spec_l02DrawRight.l1]) ?_, q1, q2⟩
      simp only [if_pos (show ((m + 1 : Nat) : Int) > 0 by omega), e1, e2, Option.bind_some, if_pos c, hw]
      exact hev
    · obtain ⟨r, i3, g3, e3, b3, p3⟩ := below_pos l hl i2 g2 p2 12 (by omega) (by omega)
      obtain ⟨s, i4, g4, e4, b4, p4⟩ := below_pos l hl i3 g3 p3 40 (by omega) (by omega)
      have he := edgeB_of b1 b2 c b3 b4
      obtain ⟨es, i', h', hev, q1, q2⟩ := ih (acc ++ [⟨a, b, wrap64 (100 * (wrap64 (1 + r))), wrap64 (5 + s)⟩]) i4 g4 (by omega) (by simp; omega) (by rw [List.all_append, h2]; simp [he]) p4
      refine ⟨es, i', h', Ev.step (fun k => by rw [spec_l02DrawRight.l1]) ?_, q1, q2⟩
      simp only [if_pos (show ((m + 1 : Nat) : Int) > 0 by omega), e1, e2, e3, e4, Option.bind_some, if_neg c, hw, if_pos (show acc.length < 4398046511104 by omega)]
      exact hev
theorem draw_net_l0 (l : List Int) (hl : l.length ≤ 2000000) (n : Int) (hn : 2 ≤ n ∧ n ≤ 8) (d : Nat) : ∀ (j : Nat) (acc : List S54) (i h : Int), 1 ≤ j → n.toNat - j = d → j ≤ n.toNat → acc.length ≤ j → acc.all (edgeB n) = true → Pl l i →
    ∃ es i' h', Ev (fun k => spec_l02DrawRight.l0 k (j : Int) l i h n acc) (n, es, i', h') ∧ es.length ≤ 20 ∧ es.all (edgeB n) = true := by
  induction d with
  | zero =>
    intro j acc i h hj h0 h1 h2 h3 hi
    obtain ⟨m, i1, g1, e1, b1, p1⟩ := below_pos l hl i h hi n (by omega) (by omega)
    obtain ⟨es, i', h', hev, q1, q2⟩ := draw_net_l1 l hl n hn m.toNat acc i1 g1 (by omega) (by omega) h3 p1
    rw [Int.toNat_of_nonneg b1.1] at hev
    refine ⟨es, i', h', Ev.step (fun k => by rw [spec_l02DrawRight.l0]) ?_, q1, q2⟩
    simp only [if_neg (show ¬ (j : Int) < n by omega), e1, Option.bind_some]
    exact hev
  | succ d ih =>
    intro j acc i h hj h0 h1 h2 h3 hi
    obtain ⟨o, i1, g1, e1, b1, p1⟩ := below_pos l hl i h hi 8 (by omega) (by omega)
    have hw := nat_w (show j ≤ 9223372036854775806 by omega)
    by_cases c : (o == 0) = true
    · obtain ⟨es, i', h', hev, q1, q2⟩ := ih (j + 1) acc i1 g1 (by omega) (by omega) (by omega) (by omega) h3 p1
      refine ⟨es, i', h', Ev.step (fun k => by rw [spec_l02DrawRight.l0]) ?_, q1, q2⟩
      simp only [if_pos (show (j : Int) < n by omega), spec_l01Once.f, e1, Option.bind_some, if_pos c, hw]
      exact hev
    · obtain ⟨b, i2, g2, e2, b2, p2⟩ := below_pos l hl i1 g1 p1 (j : Int) (by omega) (by omega)
      obtain ⟨r, i3, g3, e3, b3, p3⟩ := below_pos l hl i2 g2 p2 9 (by omega) (by omega)
      obtain ⟨s, i4, g4, e4, b4, p4⟩ := below_pos l hl i3 g3 p3 40 (by omega) (by omega)
      have he := edgeB_of (n := n) (a := (j : Int)) (b := b) (by omega) (by omega) (by omega) (show 0 ≤ r ∧ r < 12 by omega) b4
      obtain ⟨es, i', h', hev, q1, q2⟩ := ih (j + 1) (acc ++ [⟨(j : Int), b, wrap64 (100 * (wrap64 (1 + r))), wrap64 (5 + s)⟩]) i4 g4 (by omega) (by omega) (by omega) (by simp; omega) (by rw [List.all_append, h3]; simp [he]) p4
      refine ⟨es, i', h', Ev.step (fun k => by rw [spec_l02DrawRight.l0]) ?_, q1, q2⟩
      simp only [if_pos (show (j : Int) < n by omega), spec_l01Once.f, e1, e2, e3, e4, Option.bind_some, if_neg c, hw, if_pos (show acc.length < 4398046511104 by omega)]
      exact hev
/-- A drawn right net. -/
theorem draw_net_ev (l : List Int) (hl : l.length ≤ 2000000) : ∃ n es, Ev (fun k => spec_DrawRightNet.f k l) (n, es) ∧ netB n es = true ∧ (2 ≤ n ∧ n ≤ 8) ∧ es.length ≤ 20 := by
  obtain ⟨h0, e0⟩ := new_ev l hl
  obtain ⟨r, i1, g1, e1, b1, p1⟩ := below_pos l hl 0 h0 (pl0 l) 7 (by omega) (by omega)
  have hw : wrap64 (2 + r) = 2 + r := w64 (by omega) (by omega)
  obtain ⟨es, i', h', hev, q1, q2⟩ := draw_net_l0 l hl (2 + r) (by omega) _ 1 [] i1 g1 (by omega) rfl (by omega) (by simp) rfl p1
  refine ⟨2 + r, es, ?_, ?_, by omega, q1⟩
  · unfold spec_DrawRightNet.f
    refine Ev.bind e0 ?_
    have : Ev (fun k => spec_l02DrawRight.f k l 0 h0 8) (2 + r, es, i', h') := by
      unfold spec_l02DrawRight.f
      simp only [show wrap64 (8 - 1) = 7 by rw [w64 (by decide) (by decide)]; rfl, e1, Option.bind_some, hw]
      exact hev
    exact Ev.bind this ev_some
  · unfold netB
    rw [q2, Bool.and_true, Bool.and_eq_true, decide_eq_true_eq, decide_eq_true_eq]
    omega
theorem impl_without {n : Int} {es : List S54} (he : es.length ≤ 2000000) (a : Int) (h0 : 0 ≤ a) (h1 : a < (es.length : Int)) : impl_Net_without.f n es a = some (n, cutL es a.toNat) := by
  unfold impl_Net_without.f
  rw [w64 (x := a + 1) (by omega) (by omega)]
  have e1 : (es.take a.toNat).length ≤ 2000000 := by rw [List.length_take]; omega
  have e2 : (es.drop (a + 1).toNat).length ≤ 2000000 := by rw [List.length_drop]; omega
  simp only [Option.bind_some, if_pos h0, if_pos (show a ≤ (es.length : Int) by omega), List.length_nil, List.nil_append, if_pos (show 0 + (es.take a.toNat).length < 4398046511104 by omega), if_pos (show 0 ≤ a + 1 by omega), if_pos (show a + 1 ≤ (es.length : Int) by omega), if_pos (show (es.take a.toNat).length + (es.drop (a + 1).toNat).length < 4398046511104 by omega)]
  unfold cutL
  rw [show (a + 1).toNat = a.toNat + 1 by omega]
theorem impl_in (x lo hi : Int) : impl_between.f x lo hi = some (decide (lo ≤ x ∧ x ≤ hi)) := by
  unfold impl_between.f
  by_cases h : x ≥ lo
  · have h' : lo ≤ x := h
    simp [h, h']
  · have h' : ¬ lo ≤ x := h
    simp [h, h']
theorem impl_node (n : Int) (hn1 : 1 ≤ n ∧ n ≤ 30) (es : List S54) (a : Int) : impl_Net_node.f n es a = some (decide (0 ≤ a ∧ a ≤ n - 1)) := by
  unfold impl_Net_node.f
  rw [w64 (x := n - 1) (by omega) (by omega), impl_in]; rfl
theorem impl_net_loop (n : Int) (hn1 : 1 ≤ n ∧ n ≤ 30) (es : List S54) (hn : es.length ≤ 2000000) : ∀ (rest : List S54) (j : Nat), es.drop j = rest → j ≤ es.length → Ev (fun k => impl_NetOk.l0 k es (es.length : Int) (j : Int) n es) (rest.all (edgeB n)) := by
  intro rest
  induction rest with
  | nil =>
    intro j h hl
    have := drop_nil h
    refine Ev.step (fun k => by rw [impl_NetOk.l0]) ?_
    simp only [if_neg (show ¬ (j : Int) < (es.length : Int) by omega), List.all_nil]
    exact ev_some
  | cons e rest ih =>
    intro j h hl
    obtain ⟨h1, h2, h3⟩ := drop_cons h
    have hi := ih (j + 1) h3 (by omega)
    refine Ev.step (fun k => by rw [impl_NetOk.l0]) ?_
    simp only [if_pos (show (j : Int) < (es.length : Int) by omega), if_pos (show 0 ≤ (j : Int) by omega), nat_w (show j ≤ 9223372036854775806 by omega), rd54_at, h2, impl_node n hn1, impl_in, Option.bind_some, List.all_cons, edgeB, decide_eq_true_eq]
    by_cases c1 : 0 ≤ e.f0 ∧ e.f0 ≤ n - 1
    · simp only [if_pos c1, decide_eq_true c1, Bool.true_and]
      by_cases c2 : 0 ≤ e.f1 ∧ e.f1 ≤ n - 1
      · simp only [if_pos c2, decide_eq_true c2, Bool.true_and]
        by_cases c3 : e.f0 = e.f1
        · simp only [if_pos c3, decide_eq_true c3, Bool.not_true, Bool.false_and]; exact ev_some
        · simp only [if_neg c3, decide_eq_false c3, Bool.not_false, Bool.true_and]
          by_cases c4 : 1 ≤ e.f2 ∧ e.f2 ≤ 100000
          · simp only [if_pos c4, decide_eq_true c4, Bool.true_and]
            by_cases c5 : 1 ≤ e.f3 ∧ e.f3 ≤ 90
            · simp only [if_pos c5, decide_eq_true c5, Bool.true_and]; exact hi
            · simp only [if_neg c5, decide_eq_false c5, Bool.false_and]; exact ev_some
          · simp only [if_neg c4, decide_eq_false c4, Bool.false_and]; exact ev_some
      · simp only [if_neg c2, decide_eq_false c2, Bool.false_and]; exact ev_some
    · simp only [if_neg c1, decide_eq_false c1, Bool.false_and]; exact ev_some
theorem impl_net_ev (n : Int) (es : List S54) (hn : es.length ≤ 2000000) : Ev (fun k => impl_NetOk.f k n es) (netB n es) := by
  unfold impl_NetOk.f netB
  simp only [impl_in, Option.bind_some, decide_eq_true_eq]
  by_cases c1 : 1 ≤ n ∧ n ≤ 30
  · simp only [if_pos c1, decide_eq_true c1, Bool.true_and]
    by_cases c2 : (es.length : Int) > 60
    · simp only [decide_eq_true c2]
      rw [decide_eq_false (show ¬ es.length ≤ 60 by omega), Bool.false_and]
      exact Ev.step (fun k => by rw [impl_NetOk.j0]) (by simpa using ev_some)
    · simp only [decide_eq_false c2]
      rw [decide_eq_true (show es.length ≤ 60 by omega), Bool.true_and]
      refine Ev.step (fun k => by rw [impl_NetOk.j0]) ?_
      simp only [Bool.false_eq_true, if_false]
      exact impl_net_loop n c1 es hn es 0 rfl (by omega)
  · simp only [if_neg c1, decide_eq_false c1, Bool.false_and]
    exact Ev.step (fun k => by rw [impl_NetOk.j0]) (by simpa using ev_some)
theorem mn_low (s : List Nat) (a b : Nat) : mn (LB.lg s a : Int) (LB.lg s b : Int) = (LB.low s (a, b) : Int) := by
  unfold mn LB.low
  simp only
  split <;> omega
theorem parts_l2 {n : Int} {es : List S54} (hb : netB n es = true) (r : List Int) : ∀ (rest : List S54) (j : Nat) (s : List Nat) (f : Bool), es.drop j = rest → j ≤ es.length → s.length = n.toNat →
    Ev (fun k => impl_Net_parts.l1 k (encN (LB.round s (pairs rest))) (f || LB.chgs s (pairs rest)) n es) r → Ev (fun k => impl_Net_parts.l2 k (encN s) f es (es.length : Int) (j : Int) n es) r := by
  obtain ⟨n1, he, _⟩ := netB_parts hb
  intro rest
  induction rest with
  | nil =>
    intro j s f h hl hs hr
    have := drop_nil h
    refine Ev.step (fun k => by rw [impl_Net_parts.l2]) ?_
    simp only [if_neg (show ¬ (j : Int) < (es.length : Int) by omega)]
    simpa [LB.round, LB.chgs, pairs] using hr
  | cons e rest ih =>
    intro j s f h hl hs hr
    obtain ⟨h1, h2, h3⟩ := drop_cons h
    have hm : e ∈ es := by
      have : e ∈ es.drop j := by rw [h]; exact List.mem_cons_self ..
      exact List.mem_of_mem_drop this
    obtain ⟨a1, a2, a3, _, b1, b2, _⟩ := edge_in hb hm
    have e0 := nat_of b1
    have e1 := nat_of b2
    generalize hA : e.f0.toNat = A at *
    generalize hB : e.f1.toNat = B at *
    have hp : pairs (e :: rest) = (A, B) :: pairs rest := by unfold pairs; rw [List.map_cons, hA, hB]
    rw [hp] at hr
    have hround : LB.round s ((A, B) :: pairs rest) = LB.round (LB.step s (A, B)) (pairs rest) := rfl
    have hchgs : LB.chgs s ((A, B) :: pairs rest) = (LB.chg s (A, B) || LB.chgs (LB.step s (A, B)) (pairs rest)) := rfl
    rw [hround, hchgs] at hr
    have hgo := fun f' => ih (j + 1) (LB.step s (A, B)) f' h3 (by omega) (by rw [LB.step_length]; exact hs)
    refine Ev.step (fun k => by rw [impl_Net_parts.l2]) ?_
    simp only [if_pos (show (j : Int) < (es.length : Int) by omega), if_pos (show 0 ≤ (j : Int) by omega), nat_w (show j ≤ 9223372036854775806 by omega), rd54_at, h2, e0, e1, encN_length, hs, rd_encN, mn_low, if_pos (show (0 : Int) ≤ (A : Int) by omega), if_pos (show (0 : Int) ≤ (B : Int) by omega), if_pos (show (A : Int) < (n.toNat : Int) by omega), if_pos (show (B : Int) < (n.toNat : Int) by omega), Int.toNat_natCast]
    have hset : ((encN s).set A (LB.low s (A, B) : Int)).set B (LB.low s (A, B) : Int) = encN ((s.set A (LB.low s (A, B))).set B (LB.low s (A, B))) := by rw [encN_set, encN_set]
    cases hc : LB.chg s (A, B) with
    | false =>
      have hcc := hc
      unfold LB.chg at hcc
      simp only [Bool.or_eq_false_iff, decide_eq_false_iff_not, ne_eq, Decidable.not_not] at hcc
      simp only [if_pos (show (LB.lg s A : Int) = (LB.low s (A, B) : Int) by omega), if_pos (show (LB.lg s B : Int) = (LB.low s (A, B) : Int) by omega)]
      rw [hc] at hr
      have hh := hgo f (by simpa using hr)
      rw [LB.step_same hc] at hh
      exact hh
    | true =>
      rw [hc] at hr
      have hh := hgo true (by simpa using hr)
      have hst : LB.step s (A, B) = (s.set A (LB.low s (A, B))).set B (LB.low s (A, B)) := by unfold LB.step; rw [if_pos hc]
      rw [hst, ← hset] at hh
      by_cases c1 : (LB.lg s A : Int) = (LB.low s (A, B) : Int)
      · have c2 : ¬ (LB.lg s B : Int) = (LB.low s (A, B) : Int) := by
          intro c2
          unfold LB.chg at hc
          simp only [Bool.or_eq_true, decide_eq_true_eq] at hc
          omega
        simp only [if_pos c1, if_neg c2]
        exact hh
      · simp only [if_neg c1]
        exact hh
theorem pairs_in {n : Int} {es : List S54} (hb : netB n es = true) : ∀ p ∈ pairs es, (∃ x, adjE es p.1 p.2 x) ∧ p.1 < n.toNat ∧ p.2 < n.toNat := by
  intro p hp
  unfold pairs at hp
  obtain ⟨e, he, rfl⟩ := List.mem_map.1 hp
  have := edge_in hb he
  exact ⟨⟨e.f2.toNat, (adj_iff es _ _ _).2 ⟨e, he, rfl, Or.inl ⟨rfl, rfl⟩⟩⟩, this.1, this.2.1⟩
theorem pairs_fix {es : List S54} {s : List Nat} (h : ∀ p ∈ pairs es, LB.lg s p.1 = LB.lg s p.2) (a b x : Nat) (ha : adjE es a b x) : LB.lg s a = LB.lg s b := by
  obtain ⟨e, he, _, h4⟩ := (adj_iff es a b x).1 ha
  have hm : (e.f0.toNat, e.f1.toNat) ∈ pairs es := List.mem_map.2 ⟨e, he, rfl⟩
  have := h _ hm
  simp only at this
  rcases h4 with ⟨rfl, rfl⟩ | ⟨rfl, rfl⟩
  · exact this
  · exact this.symm
theorem parts_l1 {n : Int} {es : List S54} (hb : netB n es = true) (d : Nat) : ∀ s : List Nat, s.sum = d → s.length = n.toNat → LB.Lab (adjE es) s → Ev (fun k => impl_Net_parts.l1 k (encN s) true n es) (encN (CN.partsL (adjE es) n.toNat)) := by
  induction d using Nat.strongRecOn with
  | _ d ih =>
    intro s hd hs hl
    have hin := pairs_in hb
    have hin2 : ∀ p ∈ pairs es, p.1 < s.length ∧ p.2 < s.length := fun p hp => by rw [hs]; exact (hin p hp).2
    have hlr : LB.Lab (adjE es) (LB.round s (pairs es)) := LB.round_lab (adj_symm es) (pairs es) s (fun p hp => ⟨(hin p hp).1, hin2 p hp⟩) hl
    have hsr : (LB.round s (pairs es)).length = n.toNat := by rw [LB.round_length, hs]
    refine Ev.step (fun k => by rw [impl_Net_parts.l1]) ?_
    simp only [if_true]
    refine parts_l2 hb _ es 0 s false rfl (by omega) hs ?_
    cases hc : LB.chgs s (pairs es) with
    | true =>
      simp only [Bool.or_true]
      have := LB.round_sum (pairs es) s hin2 hc
      exact ih _ (by omega) (LB.round s (pairs es)) rfl hsr hlr
    | false =>
      obtain ⟨g1, g2⟩ := LB.chgs_false (pairs es) s hc
      simp only [Bool.or_false]
      refine Ev.step (fun k => by rw [impl_Net_parts.l1]) ?_
      simp only [Bool.false_eq_true, if_false]
      rw [g1, CN.parts_eq (adj_symm es) (adj_lt hb) hl (pairs_fix g2) hs]
      exact ev_some
theorem parts_l0 {n : Int} {es : List S54} (N : Nat) (hN : N ≤ 1000) (r : List Int) (d : Nat) : ∀ (j : Nat) (acc : List Int), N - j = d → j ≤ N → acc.length = N → acc.take j = (encN (List.range N)).take j →
    Ev (fun k => impl_Net_parts.l1 k (encN (List.range N)) true n es) r → Ev (fun k => impl_Net_parts.l0 k acc (N : Int) (j : Int) n es) r := by
  induction d with
  | zero =>
    intro j acc h0 h1 h2 h3 hr
    obtain rfl : j = N := by omega
    refine Ev.step (fun k => by rw [impl_Net_parts.l0]) ?_
    simp only [if_neg (Int.lt_irrefl _)]
    have e : acc = encN (List.range acc.length) := by
      rw [h2]
      have h4 : acc.take j = acc := List.take_of_length_le (by omega)
      have h5 : (encN (List.range j)).take j = encN (List.range j) := List.take_of_length_le (by rw [encN_length]; simp)
      rw [← h4, h3, h5]
    rw [h2] at e
    rw [e]
    exact hr
  | succ d ih =>
    intro j acc h0 h1 h2 h3 hr
    refine Ev.step (fun k => by rw [impl_Net_parts.l0]) ?_
    simp only [if_pos (show (j : Int) < (N : Int) by omega), if_pos (show 0 ≤ (j : Int) by omega), h2, nat_w (show j ≤ 9223372036854775806 by omega), Int.toNat_natCast]
    refine ih (j + 1) _ (by omega) (by omega) (by simpa using h2) ?_ hr
    refine set_take (by rw [encN_length]; simpa using h2) h3 (by rw [encN_length]; simp; omega) ?_
    unfold encN
    rw [List.getElem?_map, List.getElem?_range (by omega)]; rfl
theorem impl_parts_ev {n : Int} {es : List S54} (hb : netB n es = true) : Ev (fun k => impl_Net_parts.f k n es) (encN (CN.partsL (adjE es) n.toNat)) := by
  obtain ⟨n1, he, _⟩ := netB_parts hb
  unfold impl_Net_parts.f
  have hlen : (List.replicate n.toNat (0 : Int)).length = n.toNat := by simp
  simp only [if_pos (show 0 ≤ n by omega), if_pos (show n.toNat ≤ 35184372088832 by omega), Option.bind_some, hlen]
  refine parts_l0 n.toNat (by omega) _ n.toNat 0 _ rfl (by omega) hlen rfl ?_
  exact parts_l1 hb _ (List.range n.toNat) rfl (by simp) (LB.start_lab n.toNat)
theorem impl_bridge_l0 {n : Int} {es : List S54} (hb : netB n es = true) (d : Nat) : ∀ j : Nat, es.length - j = d → j ≤ es.length →
    Ev (fun k => impl_Bridges.l0 k (encN ((List.range j).filter (apartB es))) es (es.length : Int) (j : Int) n es) (encN (bridgeL es)) := by
  obtain ⟨n1, he, _⟩ := netB_parts hb
  induction d with
  | zero =>
    intro j h0 h1
    obtain rfl : j = es.length := by omega
    refine Ev.step (fun k => by rw [impl_Bridges.l0]) ?_
    simp only [if_neg (Int.lt_irrefl _)]
    exact ev_some
  | succ d ih =>
    intro j h0 h1
    have hgo := ih (j + 1) (by omega) (by omega)
    rw [filter_next] at hgo
    have hm : es.getD j z54 ∈ es := by
      rw [List.getD_eq_getElem?_getD, List.getElem?_eq_getElem (show j < es.length by omega)]; exact List.getElem_mem _
    have hi := edge_in hb hm
    have hw := impl_without (n := n) (es := es) (by omega) (j : Int) (by omega) (by omega)
    rw [Int.toNat_natCast] at hw
    have hc := cutL_net hb (a := j) (by omega)
    have hs := filter_short (apartB es) j
    refine Ev.step (fun k => by rw [impl_Bridges.l0]) ?_
    simp only [if_pos (show (j : Int) < (es.length : Int) by omega), if_pos (show 0 ≤ (j : Int) by omega), rd54_at, hw, Option.bind_some]
    refine Ev.bind (impl_parts_ev hc) ?_
    have h0' := rd_encN (CN.partsL (adjE (cutL es j)) n.toNat) (es.getD j z54).f0.toNat
    rw [← nat_of (show 0 ≤ (es.getD j z54).f0 by omega), CN.partsL_at (by omega)] at h0'
    have h1' := rd_encN (CN.partsL (adjE (cutL es j)) n.toNat) (es.getD j z54).f1.toNat
    rw [← nat_of (show 0 ≤ (es.getD j z54).f1 by omega), CN.partsL_at (by omega)] at h1'
    simp only [encN_length (CN.partsL (adjE (cutL es j)) n.toNat), CN.partsL_length, if_pos (show 0 ≤ (es.getD j z54).f1 by omega), if_pos (show (es.getD j z54).f1 < (n.toNat : Int) by omega), if_pos (show 0 ≤ (es.getD j z54).f0 by omega), if_pos (show (es.getD j z54).f0 < (n.toNat : Int) by omega), h0', h1', nat_w (show j ≤ 9223372036854775806 by omega), if_pos (show (encN ((List.range j).filter (apartB es))).length < 17592186044416 by omega)]
    by_cases c : (CN.lowest (adjE (cutL es j)) (es.getD j z54).f0.toNat : Int) = (CN.lowest (adjE (cutL es j)) (es.getD j z54).f1.toNat : Int)
    · have hC : LB.C (adjE (cutL es j)) (es.getD j z54).f0.toNat (es.getD j z54).f1.toNat := (CN.lowest_iff (adj_symm _)).1 (by omega)
      have : ¬ apartB es j = true := by unfold apartB; rw [CN.dist_isSome.2 hC]; simp
      rw [if_neg this] at hgo
      simp only [if_pos c]
      simpa using hgo
    · have hC : ¬ LB.C (adjE (cutL es j)) (es.getD j z54).f0.toNat (es.getD j z54).f1.toNat := fun h => c (by have := (CN.lowest_iff (adj_symm _)).2 h; omega)
      have : apartB es j = true := by
        unfold apartB
        cases e : (CN.dist (adjE (cutL es j)) (es.getD j z54).f0.toNat (es.getD j z54).f1.toNat).isSome with
        | false => rfl
        | true => exact absurd (CN.dist_isSome.1 e) hC
      rw [if_pos this] at hgo
      simp only [if_neg c]
      simpa [encN] using hgo
theorem impl_bridges_ev (n : Int) (es : List S54) (he : es.length ≤ 2000000) : Ev (fun k => impl_Bridges.f k n es) (bridgeR n es) := by
  unfold impl_Bridges.f bridgeR
  refine Ev.bind (impl_net_ev n es he) ?_
  by_cases c0 : netB n es = true
  · simp only [if_pos c0]
    exact impl_bridge_l0 c0 _ 0 rfl (by omega)
  · simp only [if_neg c0]; exact ev_some
theorem spec_in (x lo hi : Int) : spec_l01In.f x lo hi = some (decide (lo ≤ x ∧ x ≤ hi)) := by
  unfold spec_l01In.f
  by_cases h : lo ≤ x <;> simp [h]
theorem spec_net_loop (n : Int) (hn1 : 1 ≤ n ∧ n ≤ 30) (es : List S54) (hn : es.length ≤ 2000000) : ∀ (rest : List S54) (j : Nat), es.drop j = rest → j ≤ es.length → Ev (fun k => spec_NetOk.l0 k (j : Int) n es) (rest.all (edgeB n)) := by
  intro rest
  induction rest with
  | nil =>
    intro j h hl
    have := drop_nil h
    refine Ev.step (fun k => by rw [spec_NetOk.l0]) ?_
    simp only [if_neg (show ¬ (j : Int) < (es.length : Int) by omega), List.all_nil]
    exact ev_some
  | cons e rest ih =>
    intro j h hl
    obtain ⟨h1, h2, h3⟩ := drop_cons h
    have hi := ih (j + 1) h3 (by omega)
    refine Ev.step (fun k => by rw [spec_NetOk.l0]) ?_
    simp only [if_pos (show (j : Int) < (es.length : Int) by omega), if_pos (show 0 ≤ (j : Int) by omega), nat_w (show j ≤ 9223372036854775806 by omega), rd54_at, h2, spec_in, Option.bind_some, List.all_cons, w64 (x := n - 1) (by omega) (by omega), edgeB, decide_eq_true_eq]
    by_cases c1 : 0 ≤ e.f0 ∧ e.f0 ≤ n - 1
    · simp only [if_pos c1, decide_eq_true c1, Bool.true_and]
      by_cases c2 : 0 ≤ e.f1 ∧ e.f1 ≤ n - 1
      · simp only [if_pos c2, decide_eq_true c2, Bool.true_and]
        by_cases c3 : e.f0 = e.f1
        · simp only [if_pos c3, decide_eq_true c3, Bool.not_true, Bool.false_and]; exact ev_some
        · simp only [if_neg c3, decide_eq_false c3, Bool.not_false, Bool.true_and]
          by_cases c4 : 1 ≤ e.f2 ∧ e.f2 ≤ 100000
          · simp only [if_pos c4, decide_eq_true c4, Bool.true_and]
            by_cases c5 : 1 ≤ e.f3 ∧ e.f3 ≤ 90
            · simp only [if_pos c5, decide_eq_true c5, Bool.true_and]; exact hi
            · simp only [if_neg c5, decide_eq_false c5, Bool.false_and]; exact ev_some
          · simp only [if_neg c4, decide_eq_false c4, Bool.false_and]; exact ev_some
      · simp only [if_neg c2, decide_eq_false c2, Bool.false_and]; exact ev_some
    · simp only [if_neg c1, decide_eq_false c1, Bool.false_and]; exact ev_some
theorem spec_net_ev (n : Int) (es : List S54) (hn : es.length ≤ 2000000) : Ev (fun k => spec_NetOk.f k n es) (netB n es) := by
  unfold spec_NetOk.f netB
  simp only [spec_in, Option.bind_some, decide_eq_true_eq]
  by_cases c1 : 1 ≤ n ∧ n ≤ 30
  · simp only [if_pos c1, decide_eq_true c1, Bool.true_and]
    by_cases c2 : (es.length : Int) > 60
    · simp only [decide_eq_true c2]
      rw [decide_eq_false (show ¬ es.length ≤ 60 by omega), Bool.false_and]
      exact Ev.step (fun k => by rw [spec_NetOk.j0]) (by simpa using ev_some)
    · simp only [decide_eq_false c2]
      rw [decide_eq_true (show es.length ≤ 60 by omega), Bool.true_and]
      refine Ev.step (fun k => by rw [spec_NetOk.j0]) ?_
      simp only [Bool.false_eq_true, if_false]
      exact spec_net_loop n c1 es hn es 0 rfl (by omega)
  · simp only [if_neg c1, decide_eq_false c1, Bool.false_and]
    exact Ev.step (fun k => by rw [spec_NetOk.j0]) (by simpa using ev_some)
theorem spec_cut_loop (n : Int) (es : List S54) (hn : es.length ≤ 2000000) (a : Int) : ∀ (rest : List S54) (j : Nat) (acc : List S54), es.drop j = rest → j ≤ es.length → acc.length ≤ j → Ev (fun k => spec_Cut.l0 k a (j : Int) n es n acc) (n, acc ++ dropL a j rest) := by
  intro rest
  induction rest with
  | nil =>
    intro j acc h hl _
    have := drop_nil h
    refine Ev.step (fun k => by rw [spec_Cut.l0]) ?_
    simp only [if_neg (show ¬ (j : Int) < (es.length : Int) by omega), dropL, List.append_nil]
    exact ev_some
  | cons e rest ih =>
    intro j acc h hl ha
    obtain ⟨h1, h2, h3⟩ := drop_cons h
    refine Ev.step (fun k => by rw [spec_Cut.l0]) ?_
    simp only [if_pos (show (j : Int) < (es.length : Int) by omega), if_pos (show 0 ≤ (j : Int) by omega), rd54_at, h2, nat_w (show j ≤ 9223372036854775806 by omega), if_pos (show acc.length < 4398046511104 by omega), dropL]
    by_cases c : (j : Int) = a
    · simp only [if_pos c, List.nil_append]
      exact ih (j + 1) acc h3 (by omega) (by omega)
    · simp only [if_neg c]
      have := ih (j + 1) (acc ++ [e]) h3 (by omega) (by simp; omega)
      rw [List.append_assoc] at this
      exact this
theorem spec_cut_ev (n : Int) (es : List S54) (he : es.length ≤ 2000000) (a : Int) : Ev (fun k => spec_Cut.f k n es a) (cutR n es a) := by
  unfold spec_Cut.f cutR
  have hno : ∀ r, r = (0, []) → Ev (fun k => spec_Cut.j0 k a true n es) r := fun r hr => by
    rw [hr]; exact Ev.step (fun k => by rw [spec_Cut.j0]) (by simpa using ev_some)
  refine Ev.bind (spec_net_ev n es he) ?_
  by_cases c0 : netB n es = true
  · simp only [if_pos c0, spec_in, w64 (x := (es.length : Int) - 1) (by omega) (by omega), Option.bind_some]
    by_cases c1 : 0 ≤ a ∧ a ≤ (es.length : Int) - 1
    · simp only [c0, decide_eq_true c1, Bool.not_true, if_pos (show (True : Prop) ∧ (0 ≤ a ∧ a ≤ (es.length : Int) - 1) from ⟨trivial, c1⟩)]
      refine Ev.step (fun k => by rw [spec_Cut.j0]) ?_
      simp only [Bool.false_eq_true, if_false]
      have h := spec_cut_loop n es he a es 0 [] rfl (by omega) (by simp)
      have e := dropL_eq es 0 a.toNat
      rw [show ((0 + a.toNat : Nat) : Int) = a by omega] at e
      rw [e, List.nil_append] at h
      exact h
    · simp only [decide_eq_false c1, Bool.not_false]
      exact hno _ (by rw [if_neg (fun h => c1 h.2)])
  · simp only [if_neg c0]
    exact hno _ (by rw [if_neg (fun h => c0 h.1)])
def vL : Option (Nat × Nat) → Int
  | none => -1
  | some p => (p.1 : Int)
def vM : Option (Nat × Nat) → Int
  | none => 0
  | some p => (p.2 : Int)
def encL (s : BL.S) : List Int := s.map vL
def encM (s : BL.S) : List Int := s.map vM
theorem encL_length (s : BL.S) : (encL s).length = s.length := by simp [encL]
theorem encM_length (s : BL.S) : (encM s).length = s.length := by simp [encM]
theorem encL_set (s : BL.S) (v : Nat) (x : Option (Nat × Nat)) : encL (s.set v x) = (encL s).set v (vL x) := by simp [encL, List.map_set]
theorem encM_set (s : BL.S) (v : Nat) (x : Option (Nat × Nat)) : encM (s.set v x) = (encM s).set v (vM x) := by simp [encM, List.map_set]
theorem rd_encL (s : BL.S) (v : Nat) (h : v < s.length) : rd (encL s) (v : Int) = vL (BL.get s v) := by
  unfold rd encL BL.get
  rw [Int.toNat_natCast, List.getD_eq_getElem?_getD, List.getElem?_map, List.getD_eq_getElem?_getD, List.getElem?_eq_getElem h]; rfl
theorem rd_encM (s : BL.S) (v : Nat) (h : v < s.length) : rd (encM s) (v : Int) = vM (BL.get s v) := by
  unfold rd encM BL.get
  rw [Int.toNat_natCast, List.getD_eq_getElem?_getD, List.getElem?_map, List.getD_eq_getElem?_getD, List.getElem?_eq_getElem h]; rfl
theorem best_j4 (n : Int) (es : List S54) (r : List Int × List Int) (x9 x10 x12 e0 e1 e3 : Int) (s : BL.S) (c a b L : Nat) (hb : BL.Bd s c) (hc : c ≤ 4000) (ha : a < s.length) (hb' : b < s.length) (hL : L ≤ 100000)
    (hr : Ev (fun k => spec_l02Best.l3 k (encL (BL.relax s (a, b, L))) (encM (BL.relax s (a, b, L))) x9 x10 (wrap64 (x12 + 1)) n es e0 e1 (L : Int) e3) r) :
    Ev (fun k => spec_l02Best.j4 k (encL s) (encM s) x9 x10 x12 (a : Int) (b : Int) n es e0 e1 (L : Int) e3) r := by
  refine Ev.step (fun k => by rw [spec_l02Best.j4]) ?_
  simp only [encL_length, encM_length, if_pos (show (0 : Int) ≤ (a : Int) by omega), if_pos (show (0 : Int) ≤ (b : Int) by omega), if_pos (show (a : Int) < (s.length : Int) by omega), if_pos (show (b : Int) < (s.length : Int) by omega), rd_encL s a ha, rd_encL s b hb', rd_encM s a ha, rd_encM s b hb', Int.toNat_natCast]
  cases h1 : BL.get s b with
  | none =>
    have hch : BL.ch s (a, b, L) = false := by unfold BL.ch; simp only [h1]
    have he : BL.relax s (a, b, L) = s := by unfold BL.relax; rw [hch]; rfl
    rw [he] at hr
    simp only [vL, if_pos (show (-1 : Int) < 0 by decide)]
    exact hr
  | some p =>
    have hp := hb b p h1
    have w1 : wrap64 ((p.1 : Int) + (L : Int)) = ((p.1 + L : Nat) : Int) := by rw [w64 (by omega) (by omega)]; omega
    have w2 : wrap64 ((p.2 : Int) + 1) = ((p.2 + 1 : Nat) : Int) := by rw [w64 (by omega) (by omega)]; omega
    have hset : BL.ch s (a, b, L) = true → BL.relax s (a, b, L) = s.set a (some (p.1 + L, p.2 + 1)) := fun hch => by
      unfold BL.relax; rw [if_pos hch]; simp only [h1, Option.getD_some]
    have hL1 : encL (s.set a (some (p.1 + L, p.2 + 1))) = (encL s).set a ((p.1 + L : Nat) : Int) := encL_set s a _
    have hM1 : encM (s.set a (some (p.1 + L, p.2 + 1))) = (encM s).set a ((p.2 + 1 : Nat) : Int) := encM_set s a _
    simp only [vL, vM, if_neg (show ¬ (p.1 : Int) < 0 by omega), w1, w2]
    cases h2 : BL.get s a with
    | none =>
      have hch : BL.ch s (a, b, L) = true := by unfold BL.ch; simp only [h1, h2]
      rw [hset hch, hL1, hM1] at hr
      simp only [if_pos (show (-1 : Int) < 0 by decide)]
      exact hr
    | some q =>
      have hq := hb a q h2
      simp only [if_neg (show ¬ (q.1 : Int) < 0 by omega)]
      by_cases c1 : p.1 + L < q.1
      · have hch : BL.ch s (a, b, L) = true := by unfold BL.ch; simp only [h1, h2]; rw [decide_eq_true c1]; rfl
        rw [hset hch, hL1, hM1] at hr
        simp only [if_pos (show ((p.1 + L : Nat) : Int) < (q.1 : Int) by omega)]
        exact hr
      · simp only [if_neg (show ¬ ((p.1 + L : Nat) : Int) < (q.1 : Int) by omega)]
        by_cases c2 : p.1 + L = q.1
        · simp only [if_pos (show ((p.1 + L : Nat) : Int) = (q.1 : Int) by omega)]
          by_cases c3 : p.2 + 1 < q.2
          · have hch : BL.ch s (a, b, L) = true := by unfold BL.ch; simp only [h1, h2]; rw [decide_eq_true c2, decide_eq_true c3]; simp
            rw [hset hch, hL1, hM1] at hr
            simp only [if_pos (show ((p.2 + 1 : Nat) : Int) < (q.2 : Int) by omega)]
            exact hr
          · have hch : BL.ch s (a, b, L) = false := by unfold BL.ch; simp only [h1, h2]; rw [decide_eq_false c1, decide_eq_false c3]; simp
            have he : BL.relax s (a, b, L) = s := by unfold BL.relax; rw [hch]; rfl
            rw [he] at hr
            simp only [if_neg (show ¬ ((p.2 + 1 : Nat) : Int) < (q.2 : Int) by omega)]
            exact hr
        · have hch : BL.ch s (a, b, L) = false := by unfold BL.ch; simp only [h1, h2]; rw [decide_eq_false c1, decide_eq_false c2]; simp
          have he : BL.relax s (a, b, L) = s := by unfold BL.relax; rw [hch]; rfl
          rw [he] at hr
          simp only [if_neg (show ¬ ((p.1 + L : Nat) : Int) = (q.1 : Int) by omega)]
          exact hr
theorem best_l2 {n : Int} {es : List S54} (hb : netB n es = true) (r : List Int × List Int) (x9 : Int) : ∀ (rest : List S54) (j : Nat) (s : BL.S) (c : Nat), es.drop j = rest → j ≤ es.length → s.length = n.toNat → BL.Bd s c → c + 2 * rest.length ≤ 4000 →
    Ev (fun k => spec_l02Best.l1 k (encL (BL.round s (dsS rest))) (encM (BL.round s (dsS rest))) (wrap64 (x9 + 1)) n es) r → Ev (fun k => spec_l02Best.l2 k (encL s) (encM s) x9 (j : Int) n es) r := by
  obtain ⟨n1, he, _⟩ := netB_parts hb
  intro rest
  induction rest with
  | nil =>
    intro j s c h hl hs _ _ hr
    have := drop_nil h
    refine Ev.step (fun k => by rw [spec_l02Best.l2]) ?_
    simp only [if_neg (show ¬ (j : Int) < (es.length : Int) by omega)]
    exact hr
  | cons e rest ih =>
    intro j s c h hl hs hbd hc hr
    obtain ⟨h1, h2, h3⟩ := drop_cons h
    have hm : e ∈ es := by
      have : e ∈ es.drop j := by rw [h]; exact List.mem_cons_self ..
      exact List.mem_of_mem_drop this
    obtain ⟨a1, a2, a3, ⟨_, b0⟩, b1, b2, b3, _⟩ := edge_in hb hm
    have e0 := nat_of b1
    have e1 := nat_of b2
    have e2 := nat_of b3
    rw [List.length_cons] at hc
    have hround : BL.round s (dsS (e :: rest)) = BL.round (BL.relax (BL.relax s (e.f0.toNat, e.f1.toNat, e.f2.toNat)) (e.f1.toNat, e.f0.toNat, e.f2.toNat)) (dsS rest) := rfl
    rw [hround] at hr
    have bd1 := BL.relax_bd hbd (d := (e.f0.toNat, e.f1.toNat, e.f2.toNat)) (by rw [hs]; exact a1) b0
    have bd2 := BL.relax_bd bd1 (d := (e.f1.toNat, e.f0.toNat, e.f2.toNat)) (by rw [BL.relax_length, hs]; exact a2) b0
    have hgo := ih (j + 1) _ _ h3 (by omega) (by rw [BL.relax_length, BL.relax_length]; exact hs) bd2 (by omega) hr
    refine Ev.step (fun k => by rw [spec_l02Best.l2]) ?_
    simp only [if_pos (show (j : Int) < (es.length : Int) by omega), if_pos (show 0 ≤ (j : Int) by omega), rd54_at, h2]
    refine Ev.step (fun k => by rw [spec_l02Best.l3]) ?_
    simp only [if_pos (show (0 : Int) < 2 by decide), if_neg (show ¬ (0 : Int) = 1 by decide)]
    have g1 := best_j4 n es r x9 (j : Int) 0 e.f0 e.f1 e.f3 s c e.f0.toNat e.f1.toNat e.f2.toNat hbd (by omega) (by rw [hs]; exact a1) (by rw [hs]; exact a2) b0
    rw [← e0, ← e1, ← e2] at g1
    refine g1 ?_
    rw [show wrap64 (0 + 1) = 1 by rw [w64 (by decide) (by decide)]; rfl]
    refine Ev.step (fun k => by rw [spec_l02Best.l3]) ?_
    simp only [if_pos (show (1 : Int) < 2 by decide), if_true]
    have g2 := best_j4 n es r x9 (j : Int) 1 e.f0 e.f1 e.f3 (BL.relax s (e.f0.toNat, e.f1.toNat, e.f2.toNat)) (c + 1) e.f1.toNat e.f0.toNat e.f2.toNat bd1 (by omega) (by rw [BL.relax_length, hs]; exact a2) (by rw [BL.relax_length, hs]; exact a1) b0
    rw [← e0, ← e1, ← e2] at g2
    refine g2 ?_
    rw [show wrap64 (1 + 1) = 2 by rw [w64 (by decide) (by decide)]; rfl]
    refine Ev.step (fun k => by rw [spec_l02Best.l3]) ?_
    simp only [if_neg (show ¬ (2 : Int) < 2 by decide), nat_w (show j ≤ 9223372036854775806 by omega)]
    exact hgo
theorem best_l1 {n : Int} {es : List S54} (hb : netB n es = true) (t : Nat) (ht : t < n.toNat) (d : Nat) : ∀ i : Nat, n.toNat - i = d → i ≤ n.toNat →
    Ev (fun k => spec_l02Best.l1 k (encL (BL.iter (dsS es) (BL.start n.toNat t) i)) (encM (BL.iter (dsS es) (BL.start n.toNat t) i)) (i : Int) n es) (encL (CN.bestL (adjE es) n.toNat t), encM (CN.bestL (adjE es) n.toNat t)) := by
  obtain ⟨n1, he, _⟩ := netB_parts hb
  obtain ⟨d1, d2, d3⟩ := ds_in hb
  induction d with
  | zero =>
    intro i h0 h1
    obtain rfl : i = n.toNat := by omega
    refine Ev.step (fun k => by rw [spec_l02Best.l1]) ?_
    simp only [if_neg (show ¬ ((n.toNat : Nat) : Int) < n by omega)]
    have e : BL.iter (dsS es) (BL.start n.toNat t) n.toNat = CN.bestL (adjE es) n.toNat t :=
      CN.best_eq (BL.iter_ok (BL.start_ok _ ht) (by rw [BL.start_length]; exact d1) _) (BL.iter_done ht d1 d2 _ (by omega)) (by rw [BL.iter_length, BL.start_length])
    rw [e]
    exact ev_some
  | succ d ih =>
    intro i h0 h1
    refine Ev.step (fun k => by rw [spec_l02Best.l1]) ?_
    simp only [if_pos (show (i : Int) < n by omega)]
    have hbd := BL.iter_bd ht d1 d3 i
    rw [dsS_length] at hbd
    have hmul : 2 * es.length * i ≤ 2 * 60 * 30 := Nat.mul_le_mul (by omega) (by omega)
    refine best_l2 hb _ (i : Int) es 0 _ (2 * es.length * i) rfl (by omega) (by rw [BL.iter_length, BL.start_length]) hbd (by omega) ?_
    rw [nat_w (by omega)]
    exact ih (i + 1) (by omega) (by omega)
theorem best_l0 {n : Int} {es : List S54} (hb : netB n es = true) (t : Nat) (ht : t < n.toNat) (r : List Int × List Int)
    (hr : Ev (fun k => spec_l02Best.l1 k (encL (BL.start n.toNat t)) (encM (BL.start n.toNat t)) 0 n es) r) (d : Nat) : ∀ i : Nat, n.toNat - i = d → i ≤ n.toNat →
    Ev (fun k => spec_l02Best.l0 k (t : Int) (List.replicate i (-1)) (List.replicate i 0) (i : Int) n es) r := by
  obtain ⟨n1, he, _⟩ := netB_parts hb
  induction d with
  | zero =>
    intro i h0 h1
    obtain rfl : i = n.toNat := by omega
    refine Ev.step (fun k => by rw [spec_l02Best.l0]) ?_
    have e1 : encL (BL.start n.toNat t) = (List.replicate n.toNat (-1)).set t 0 := by
      unfold BL.start
      rw [encL_set]
      unfold encL
      rw [List.map_replicate]; rfl
    have e2 : encM (BL.start n.toNat t) = List.replicate n.toNat 0 := by
      unfold BL.start
      rw [encM_set]
      unfold encM
      rw [List.map_replicate]
      show (List.replicate n.toNat (0 : Int)).set t 0 = _
      apply List.ext_getElem (by simp)
      intro i h1 h2
      rw [List.getElem_set]
      split <;> simp
    rw [e1, e2] at hr
    simp only [if_neg (show ¬ ((n.toNat : Nat) : Int) < n by omega), if_pos (show (0 : Int) ≤ (t : Int) by omega), List.length_replicate, if_pos (show (t : Int) < ((n.toNat : Nat) : Int) by omega), Int.toNat_natCast]
    exact hr
  | succ d ih =>
    intro i h0 h1
    refine Ev.step (fun k => by rw [spec_l02Best.l0]) ?_
    simp only [if_pos (show (i : Int) < n by omega), List.length_replicate, if_pos (show i < 17592186044416 by omega), nat_w (show i ≤ 9223372036854775806 by omega)]
    have := ih (i + 1) (by omega) (by omega)
    rw [List.replicate_succ', List.replicate_succ'] at this
    exact this
theorem spec_best_ev {n : Int} {es : List S54} (hb : netB n es = true) (t : Int) (h0 : 0 ≤ t) (h1 : t < n) : Ev (fun k => spec_l02Best.f k n es t) (encL (CN.bestL (adjE es) n.toNat t.toNat), encM (CN.bestL (adjE es) n.toNat t.toNat)) := by
  unfold spec_l02Best.f
  have ht : t.toNat < n.toNat := by omega
  have := best_l0 hb t.toNat ht _ (best_l1 hb t.toNat ht _ 0 rfl (by omega)) _ 0 rfl (by omega)
  rw [← nat_of h0] at this
  exact this
theorem spec_bridge_l0 {n : Int} {es : List S54} (hb : netB n es = true) (d : Nat) : ∀ j : Nat, es.length - j = d → j ≤ es.length →
    Ev (fun k => spec_Bridges.l0 k (encN ((List.range j).filter (apartB es))) (j : Int) n es) (encN (bridgeL es)) := by
  obtain ⟨n1, he, _⟩ := netB_parts hb
  induction d with
  | zero =>
    intro j h0 h1
    obtain rfl : j = es.length := by omega
    refine Ev.step (fun k => by rw [spec_Bridges.l0]) ?_
    simp only [if_neg (Int.lt_irrefl _)]
    exact ev_some
  | succ d ih =>
    intro j h0 h1
    have hgo := ih (j + 1) (by omega) (by omega)
    rw [filter_next] at hgo
    have hm : es.getD j z54 ∈ es := by
      rw [List.getD_eq_getElem?_getD, List.getElem?_eq_getElem (show j < es.length by omega)]; exact List.getElem_mem _
    have hi := edge_in hb hm
    have hcut := spec_cut_ev n es (by omega) (j : Int)
    unfold cutR at hcut
    rw [if_pos ⟨hb, by omega, by omega⟩, Int.toNat_natCast] at hcut
    have hc := cutL_net hb (a := j) (by omega)
    have hbest := spec_best_ev hc (es.getD j z54).f0 (by omega) (by omega)
    have hs := filter_short (apartB es) j
    refine Ev.step (fun k => by rw [spec_Bridges.l0]) ?_
    simp only [if_pos (show (j : Int) < (es.length : Int) by omega)]
    refine Ev.bind hcut ?_
    simp only [if_pos (show 0 ≤ (j : Int) by omega), rd54_at]
    refine Ev.bind hbest ?_
    have hrd := rd_encL (CN.bestL (adjE (cutL es j)) n.toNat (es.getD j z54).f0.toNat) (es.getD j z54).f1.toNat (by rw [CN.bestL_length]; omega)
    rw [← nat_of (show 0 ≤ (es.getD j z54).f1 by omega), CN.bestL_get (by omega)] at hrd
    simp only [encL_length, CN.bestL_length, if_pos (show 0 ≤ (es.getD j z54).f1 by omega), if_pos (show (es.getD j z54).f1 < (n.toNat : Int) by omega), hrd, nat_w (show j ≤ 9223372036854775806 by omega), if_pos (show (encN ((List.range j).filter (apartB es))).length < 17592186044416 by omega)]
    cases c : CN.dist (adjE (cutL es j)) (es.getD j z54).f0.toNat (es.getD j z54).f1.toNat with
    | none =>
      have : apartB es j = true := by unfold apartB; rw [c]; rfl
      rw [if_pos this] at hgo
      simp only [vL, if_pos (show (-1 : Int) < 0 by decide)]
      simpa [encN] using hgo
    | some p =>
      have : ¬ apartB es j = true := by unfold apartB; rw [c]; simp
      rw [if_neg this] at hgo
      simp only [vL, if_neg (show ¬ (p.1 : Int) < 0 by omega)]
      rw [List.append_nil] at hgo
      exact hgo
theorem spec_bridges_ev (n : Int) (es : List S54) (he : es.length ≤ 2000000) : Ev (fun k => spec_Bridges.f k n es) (bridgeR n es) := by
  unfold spec_Bridges.f bridgeR
  refine Ev.bind (spec_net_ev n es he) ?_
  by_cases c0 : netB n es = true
  · simp only [if_pos c0]
    exact spec_bridge_l0 c0 _ 0 rfl (by omega)
  · simp only [if_neg c0]; exact ev_some
theorem impl_cut_ev (n : Int) (es : List S54) (he : es.length ≤ 2000000) (a : Int) : Ev (fun k => impl_Cut.f k n es a) (cutR n es a) := by
  unfold impl_Cut.f cutR
  refine Ev.bind (impl_net_ev n es he) ?_
  by_cases c0 : netB n es = true
  · simp only [if_pos c0, impl_in, w64 (x := (es.length : Int) - 1) (by omega) (by omega), Option.bind_some, decide_eq_true_eq]
    by_cases c1 : 0 ≤ a ∧ a ≤ (es.length : Int) - 1
    · simp only [if_pos c1, c0, if_pos (show (True : Prop) ∧ (0 ≤ a ∧ a ≤ (es.length : Int) - 1) from ⟨trivial, c1⟩), impl_without he a c1.1 (by omega), Option.bind_some]
      exact ev_some
    · simp only [if_neg c1, if_neg (fun h : netB n es = true ∧ (0 ≤ a ∧ a ≤ (es.length : Int) - 1) => c1 h.2)]
      exact ev_some
  · simp only [if_neg c0, if_neg (fun h : netB n es = true ∧ (0 ≤ a ∧ a ≤ (es.length : Int) - 1) => c0 h.1)]
    exact ev_some
noncomputable def partsR (n : Int) (es : List S54) : List Int := if netB n es = true then encN (CN.partsL (adjE es) n.toNat) else []
theorem partsR_length (n : Int) (es : List S54) : (partsR n es).length ≤ 30 := by
  unfold partsR
  split
  · rename_i h
    obtain ⟨n1, _⟩ := netB_parts h
    rw [encN_length, CN.partsL_length]; omega
  · simp
theorem impl_Parts_ev (n : Int) (es : List S54) (he : es.length ≤ 2000000) : Ev (fun k => impl_Parts.f k n es) (partsR n es) := by
  unfold impl_Parts.f partsR
  refine Ev.bind (impl_net_ev n es he) ?_
  by_cases c0 : netB n es = true
  · simp only [if_pos c0]
    exact Ev.bind (impl_parts_ev c0) ev_some
  · simp only [if_neg c0]; exact ev_some
def e63 : Option (Nat × Nat) → S63
  | none => ⟨0, 0, false⟩
  | some p => ⟨(p.1 : Int), (p.2 : Int), true⟩
def encF (s : BL.S) : List S63 := s.map e63
theorem encF_length (s : BL.S) : (encF s).length = s.length := by simp [encF]
theorem encF_set (s : BL.S) (v : Nat) (x : Option (Nat × Nat)) : encF (s.set v x) = (encF s).set v (e63 x) := by simp [encF, List.map_set]
theorem rd_encF (s : BL.S) (v : Nat) (h : v < s.length) : rd_T63 (encF s) (v : Int) = e63 (BL.get s v) := by
  unfold rd_T63 encF BL.get
  rw [Int.toNat_natCast, List.getD_eq_getElem?_getD, List.getElem?_map, List.getD_eq_getElem?_getD, List.getElem?_eq_getElem h]; rfl
set_option maxHeartbeats 2000000 in
theorem dist_l2 (n : Int) (es : List S54) (r : List S63) (x24 e0 e1 e3 : Int) (ys : List Int) (hy : ys.length = 2) (j : Nat) (hj : j < 2) (s : BL.S) (f : Bool) (c w v L : Nat) (hb : BL.Bd s c) (hc : c ≤ 4000) (hw : w < s.length) (hv : v < s.length) (hL : L ≤ 100000) (hrd : ys.getD j 0 = (v : Int)) (ho : impl_Edge_other.f e0 e1 (L : Int) e3 (v : Int) = some ((w : Int), true))
    (hr : Ev (fun k => impl_Net_distances.l2 k (encF (BL.relax s (w, v, L))) (f || BL.ch s (w, v, L)) es (es.length : Int) x24 ys 2 ((j + 1 : Nat) : Int) n es e0 e1 (L : Int) e3) r) :
    Ev (fun k => impl_Net_distances.l2 k (encF s) f es (es.length : Int) x24 ys 2 (j : Int) n es e0 e1 (L : Int) e3) r := by
  refine Ev.step (fun k => by rw [impl_Net_distances.l2]) ?_
  simp only [if_pos (show (j : Int) < 2 by omega), if_pos (show 0 ≤ (j : Int) by omega), hy, if_pos (show (j : Int) < ((2 : Nat) : Int) by omega), rdI_at, hrd, ho, Option.bind_some, encF_length, if_pos (show (0 : Int) ≤ (v : Int) by omega), if_pos (show (v : Int) < (s.length : Int) by omega), if_pos (show (0 : Int) ≤ (w : Int) by omega), if_pos (show (w : Int) < (s.length : Int) by omega), rd_encF s v hv, rd_encF s w hw, nat_w (show j ≤ 9223372036854775806 by omega), Int.toNat_natCast]
  cases h1 : BL.get s v with
  | none =>
    have hch : BL.ch s (w, v, L) = false := by unfold BL.ch; simp only [h1]
    have he : BL.relax s (w, v, L) = s := by unfold BL.relax; rw [hch]; rfl
    rw [he, hch, Bool.or_false] at hr
    simp only [e63, Bool.false_eq_true, if_false]
    exact hr
  | some p =>
    have hp := hb v p h1
    have w1 : wrap64 ((p.1 : Int) + (L : Int)) = ((p.1 + L : Nat) : Int) := by rw [w64 (by omega) (by omega)]; omega
    have w2 : wrap64 ((p.2 : Int) + 1) = ((p.2 + 1 : Nat) : Int) := by rw [w64 (by omega) (by omega)]; omega
    have hset : BL.ch s (w, v, L) = true → encF (BL.relax s (w, v, L)) = (encF s).set w ⟨((p.1 + L : Nat) : Int), ((p.2 + 1 : Nat) : Int), true⟩ := fun hch => by
      have : BL.relax s (w, v, L) = s.set w (some (p.1 + L, p.2 + 1)) := by unfold BL.relax; rw [if_pos hch]; simp only [h1, Option.getD_some]
      rw [this, encF_set]; rfl
    simp only [e63, if_true, w1, w2]
    clear w1 w2
    unfold impl_reach_better.f
    cases h2 : BL.get s w with
    | none =>
      have hch : BL.ch s (w, v, L) = true := by unfold BL.ch; simp only [h1, h2]
      rw [hset hch, hch, Bool.or_true] at hr
      simp only [Bool.false_eq_true, if_false, Option.bind_some, if_true]
      exact hr
    | some q =>
      simp only [if_true]
      by_cases c1 : p.1 + L < q.1
      · have hch : BL.ch s (w, v, L) = true := by unfold BL.ch; simp only [h1, h2]; rw [decide_eq_true c1]; rfl
        rw [hset hch, hch, Bool.or_true] at hr
        simp only [if_pos (show ((p.1 + L : Nat) : Int) < (q.1 : Int) by omega), Option.bind_some, if_true]
        exact hr
      · simp only [if_neg (show ¬ ((p.1 + L : Nat) : Int) < (q.1 : Int) by omega)]
        by_cases c2 : p.1 + L = q.1
        · simp only [if_pos (show ((p.1 + L : Nat) : Int) = (q.1 : Int) by omega), Option.bind_some]
          by_cases c3 : p.2 + 1 < q.2
          · have hch : BL.ch s (w, v, L) = true := by unfold BL.ch; simp only [h1, h2]; rw [decide_eq_true c2, decide_eq_true c3]; simp
            rw [hset hch, hch, Bool.or_true] at hr
            simp only [decide_eq_true (show ((p.2 + 1 : Nat) : Int) < (q.2 : Int) by omega), if_true]
            exact hr
          · have hch : BL.ch s (w, v, L) = false := by unfold BL.ch; simp only [h1, h2]; rw [decide_eq_false c1, decide_eq_false c3]; simp
            have he : BL.relax s (w, v, L) = s := by unfold BL.relax; rw [hch]; rfl
            rw [he, hch, Bool.or_false] at hr
            simp only [decide_eq_false (show ¬ ((p.2 + 1 : Nat) : Int) < (q.2 : Int) by omega), Bool.false_eq_true, if_false]
            exact hr
        · have hch : BL.ch s (w, v, L) = false := by unfold BL.ch; simp only [h1, h2]; rw [decide_eq_false c1, decide_eq_false c2]; simp
          have he : BL.relax s (w, v, L) = s := by unfold BL.relax; rw [hch]; rfl
          rw [he, hch, Bool.or_false] at hr
          simp only [if_neg (show ¬ ((p.1 + L : Nat) : Int) = (q.1 : Int) by omega), Option.bind_some, Bool.false_eq_true, if_false]
          exact hr
theorem dist_l1 {n : Int} {es : List S54} (hb : netB n es = true) (r : List S63) : ∀ (rest : List S54) (j : Nat) (s : BL.S) (f : Bool) (c : Nat), es.drop j = rest → j ≤ es.length → s.length = n.toNat → BL.Bd s c → c + 2 * rest.length ≤ 4000 →
    Ev (fun k => impl_Net_distances.l0 k (encF (BL.round s (dsI rest))) (f || BL.chs s (dsI rest)) n es) r → Ev (fun k => impl_Net_distances.l1 k (encF s) f es (es.length : Int) (j : Int) n es) r := by
  obtain ⟨n1, he, _⟩ := netB_parts hb
  intro rest
  induction rest with
  | nil =>
    intro j s f c h hl hs _ _ hr
    have := drop_nil h
    refine Ev.step (fun k => by rw [impl_Net_distances.l1]) ?_
    simp only [if_neg (show ¬ (j : Int) < (es.length : Int) by omega)]
    simpa [BL.round, BL.chs, dsI] using hr
  | cons e rest ih =>
    intro j s f c h hl hs hbd hc hr
    obtain ⟨h1, h2, h3⟩ := drop_cons h
    have hm : e ∈ es := by
      have : e ∈ es.drop j := by rw [h]; exact List.mem_cons_self ..
      exact List.mem_of_mem_drop this
    obtain ⟨a1, a2, a3, ⟨_, b0⟩, b1, b2, b3, _⟩ := edge_in hb hm
    have e0 := nat_of b1
    have e1 := nat_of b2
    have e2 := nat_of b3
    rw [List.length_cons] at hc
    have hround : BL.round s (dsI (e :: rest)) = BL.round (BL.relax (BL.relax s (e.f1.toNat, e.f0.toNat, e.f2.toNat)) (e.f0.toNat, e.f1.toNat, e.f2.toNat)) (dsI rest) := rfl
    have hchs : BL.chs s (dsI (e :: rest)) = (BL.ch s (e.f1.toNat, e.f0.toNat, e.f2.toNat) || (BL.ch (BL.relax s (e.f1.toNat, e.f0.toNat, e.f2.toNat)) (e.f0.toNat, e.f1.toNat, e.f2.toNat) || BL.chs (BL.relax (BL.relax s (e.f1.toNat, e.f0.toNat, e.f2.toNat)) (e.f0.toNat, e.f1.toNat, e.f2.toNat)) (dsI rest))) := rfl
    rw [hround, hchs] at hr
    have bd1 := BL.relax_bd hbd (d := (e.f1.toNat, e.f0.toNat, e.f2.toNat)) (by rw [hs]; exact a2) b0
    have bd2 := BL.relax_bd bd1 (d := (e.f0.toNat, e.f1.toNat, e.f2.toNat)) (by rw [BL.relax_length, hs]; exact a1) b0
    have hgo := ih (j + 1) _ ((f || BL.ch s (e.f1.toNat, e.f0.toNat, e.f2.toNat)) || BL.ch (BL.relax s (e.f1.toNat, e.f0.toNat, e.f2.toNat)) (e.f0.toNat, e.f1.toNat, e.f2.toNat)) _ h3 (by omega) (by rw [BL.relax_length, BL.relax_length]; exact hs) bd2 (by omega) (by rw [Bool.or_assoc, Bool.or_assoc]; exact hr)
    refine Ev.step (fun k => by rw [impl_Net_distances.l1]) ?_
    simp only [if_pos (show (j : Int) < (es.length : Int) by omega), if_pos (show 0 ≤ (j : Int) by omega), rd54_at, h2, Option.bind_some, show ([e.f0, e.f1] : List Int).length = 2 from rfl, show (((2 : Nat) : Int)) = 2 from rfl]
    have g1 := dist_l2 n es r (j : Int) e.f0 e.f1 e.f3 [e.f0, e.f1] rfl 0 (by omega) s f c e.f1.toNat e.f0.toNat e.f2.toNat hbd (by omega) (by rw [hs]; exact a2) (by rw [hs]; exact a1) b0 e0 (by unfold impl_Edge_other.f; rw [← e0, ← e1, if_pos rfl])
    rw [← e2] at g1
    refine g1 ?_
    have g2 := dist_l2 n es r (j : Int) e.f0 e.f1 e.f3 [e.f0, e.f1] rfl 1 (by omega) (BL.relax s (e.f1.toNat, e.f0.toNat, e.f2.toNat)) (f || BL.ch s (e.f1.toNat, e.f0.toNat, e.f2.toNat)) (c + 1) e.f0.toNat e.f1.toNat e.f2.toNat bd1 (by omega) (by rw [BL.relax_length, hs]; exact a1) (by rw [BL.relax_length, hs]; exact a2) b0 e1 (by unfold impl_Edge_other.f; rw [← e0, ← e1, if_neg (by omega), if_pos rfl])
    rw [← e2] at g2
    refine g2 ?_
    refine Ev.step (fun k => by rw [impl_Net_distances.l2]) ?_
    simp only [if_neg (show ¬ ((1 + 1 : Nat) : Int) < 2 by omega), nat_w (show j ≤ 9223372036854775806 by omega)]
    exact hgo
theorem dist_l0 {n : Int} {es : List S54} (hb : netB n es = true) (t : Nat) (ht : t < n.toNat) (d : Nat) : ∀ i : Nat, n.toNat - i = d → i ≤ n.toNat →
    Ev (fun k => impl_Net_distances.l0 k (encF (BL.iter (dsI es) (BL.start n.toNat t) i)) true n es) (encF (CN.bestL (adjE es) n.toNat t)) := by
  obtain ⟨n1, he, _⟩ := netB_parts hb
  obtain ⟨d1, d2, d3⟩ := dsI_in hb
  have hbest : ∀ i, BL.Done (dsI es) (BL.iter (dsI es) (BL.start n.toNat t) i) → BL.iter (dsI es) (BL.start n.toNat t) i = CN.bestL (adjE es) n.toNat t := fun i hd => by
    have := CN.best_eq (n := n.toNat) (BL.iter_ok (BL.start_ok _ ht) (by rw [BL.start_length]; exact d1) i) hd (by rw [BL.iter_length, BL.start_length])
    rw [adjI] at this; exact this
  have hbd := fun i => BL.iter_bd ht d1 d3 i
  have hrun : ∀ i, i ≤ n.toNat → (BL.chs (BL.iter (dsI es) (BL.start n.toNat t) i) (dsI es) = true → Ev (fun k => impl_Net_distances.l0 k (encF (BL.iter (dsI es) (BL.start n.toNat t) (i + 1))) true n es) (encF (CN.bestL (adjE es) n.toNat t))) → Ev (fun k => impl_Net_distances.l0 k (encF (BL.iter (dsI es) (BL.start n.toNat t) i)) true n es) (encF (CN.bestL (adjE es) n.toNat t)) := by
    intro i hi hnext
    refine Ev.step (fun k => by rw [impl_Net_distances.l0]) ?_
    simp only [if_true]
    have hb2 := hbd i
    rw [dsI_length] at hb2
    have hmul : 2 * es.length * i ≤ 2 * 60 * 30 := Nat.mul_le_mul (by omega) (by omega)
    refine dist_l1 hb _ es 0 _ false (2 * es.length * i) rfl (by omega) (by rw [BL.iter_length, BL.start_length]) hb2 (by omega) ?_
    cases hc : BL.chs (BL.iter (dsI es) (BL.start n.toNat t) i) (dsI es) with
    | true => simp only [Bool.or_true]; exact hnext hc
    | false =>
      obtain ⟨g1, g2⟩ := BL.chs_false _ _ hc
      simp only [Bool.or_false]
      refine Ev.step (fun k => by rw [impl_Net_distances.l0]) ?_
      simp only [Bool.false_eq_true, if_false]
      rw [g1, hbest i g2]
      exact ev_some
  induction d with
  | zero =>
    intro i h0 h1
    refine hrun i h1 (fun hc => ?_)
    have := BL.done_chs (dsI es) _ (BL.iter_done ht d1 d2 i (by omega))
    rw [this] at hc; cases hc
  | succ d ih =>
    intro i h0 h1
    exact hrun i h1 (fun _ => ih (i + 1) (by omega) (by omega))
theorem impl_dist_ev {n : Int} {es : List S54} (hb : netB n es = true) (t : Int) (h0 : 0 ≤ t) (h1 : t < n) : Ev (fun k => impl_Net_distances.f k n es t) (encF (CN.bestL (adjE es) n.toNat t.toNat)) := by
  obtain ⟨n1, he, _⟩ := netB_parts hb
  unfold impl_Net_distances.f
  have hlen : (List.replicate n.toNat z63).length = n.toNat := by simp
  have hz : rd_T63 (List.replicate n.toNat z63) t = z63 := by
    unfold rd_T63
    rw [List.getD_eq_getElem?_getD, List.getElem?_replicate, if_pos (by omega)]; rfl
  have hst : (List.replicate n.toNat z63).set t.toNat ⟨0, 0, true⟩ = encF (BL.start n.toNat t.toNat) := by
    unfold BL.start
    rw [encF_set]
    unfold encF
    rw [List.map_replicate]; rfl
  simp only [if_pos (show 0 ≤ n by omega), if_pos (show n.toNat ≤ 11728124029610 by omega), Option.bind_some, hlen, if_pos h0, if_pos (show t < (n.toNat : Int) by omega), hz]
  rw [show (⟨z63.f0, z63.f1, true⟩ : S63) = ⟨0, 0, true⟩ from rfl, hst]
  exact dist_l0 hb t.toNat (by omega) _ 0 rfl (by omega)
section
variable {n : Int} {es : List S54} (hb : netB n es = true) (t : Nat) (ht : t < n.toNat)
include hb ht
set_option maxHeartbeats 2000000 in
theorem impl_path_l1 (from_ : Nat) (acc : List Int) (hacc : acc.length ≤ 8000) (a : Nat) (q : Nat × Nat) (hq : BL.get (CN.bestL (adjE es) n.toNat t) a = some q) (r : List Int × Int) (i b : Nat)
    (hr : Ev (fun k => impl_Shortest.l0 k (from_ : Int) (t : Int) (encF (CN.bestL (adjE es) n.toNat t)) (acc ++ [(i : Int)]) (b : Int) n es) r) : ∀ (rest : List S54) (j : Nat), es.drop j = rest → j ≤ es.length → findT (CN.bestL (adjE es) n.toNat t) a rest j = some (i, b) →
    Ev (fun k => impl_Shortest.l1 k (from_ : Int) (t : Int) (encF (CN.bestL (adjE es) n.toNat t)) acc (a : Int) es (es.length : Int) (j : Int) n es) r := by
  obtain ⟨n1, he, _⟩ := netB_parts hb
  obtain ⟨d1, d2, d3⟩ := ds_in hb
  obtain ⟨_, _, o3⟩ := CN.bestL_ok ht d1 d2 d3
  rw [dsS_length] at o3
  have hmul : 2 * es.length * n.toNat ≤ 2 * 60 * 30 := Nat.mul_le_mul (by omega) (by omega)
  have hlen := CN.bestL_length (adjE es) n.toNat t
  have haN : a < n.toNat := by
    rcases Nat.lt_or_ge a n.toNat with h | h
    · exact h
    · rw [BL.get_none (by rw [hlen]; exact h)] at hq; cases hq
  have hk : ∀ e ∈ es, inc1 e a = true → ∃ p, BL.get (CN.bestL (adjE es) n.toNat t) (oth e a) = some p := by
    intro e hm hi
    have hC : LB.C (adjE es) t a := by
      rw [CN.bestL_get haN] at hq
      exact CN.dist_isSome.1 (by rw [hq]; rfl)
    have hin := edge_in hb hm
    have hadj : adjE es (oth e a) a e.f2.toNat := by
      rw [adj_iff]
      refine ⟨e, hm, rfl, ?_⟩
      unfold oth
      unfold inc1 at hi
      rw [Bool.or_eq_true, decide_eq_true_eq, decide_eq_true_eq] at hi
      by_cases c : e.f0.toNat = a
      · rw [if_pos c]; exact Or.inr ⟨rfl, c⟩
      · rw [if_neg c]; exact Or.inl ⟨rfl, hi.resolve_left c⟩
    have hC2 : LB.C (adjE es) t (oth e a) := LB.C.trans hC (LB.C.edge hadj)
    have hoN : oth e a < n.toNat := by unfold oth; split <;> omega
    rw [CN.bestL_get hoN]
    exact CN.dist_of hC2
  generalize CN.bestL (adjE es) n.toNat t = s at *
  intro rest
  induction rest with
  | nil => intro j h hl hf; cases hf
  | cons e rest ih =>
    intro j h hl hf
    obtain ⟨h1, h2, h3⟩ := drop_cons h
    have hm : e ∈ es := by
      have : e ∈ es.drop j := by rw [h]; exact List.mem_cons_self ..
      exact List.mem_of_mem_drop this
    obtain ⟨a1, a2, a3, ⟨_, b0⟩, b1, b2, b3, _⟩ := edge_in hb hm
    have e0 := nat_of b1
    have e1 := nat_of b2
    have e2 := nat_of b3
    unfold findT at hf
    refine Ev.step (fun k => by rw [impl_Shortest.l1]) ?_
    simp only [if_pos (show (j : Int) < (es.length : Int) by omega), if_pos (show 0 ≤ (j : Int) by omega), rd54_at, h2, nat_w (show j ≤ 9223372036854775806 by omega)]
    by_cases ci : inc1 e a = true
    · obtain ⟨p, hp⟩ := hk e hm ci
      have hoN : oth e a < n.toNat := by unfold oth; split <;> omega
      have hot : impl_Edge_other.f e.f0 e.f1 e.f2 e.f3 (a : Int) = some ((oth e a : Int), true) := by
        unfold impl_Edge_other.f oth
        unfold inc1 at ci
        rw [Bool.or_eq_true, decide_eq_true_eq, decide_eq_true_eq] at ci
        by_cases c : e.f0.toNat = a
        · rw [if_pos (show (a : Int) = e.f0 by omega), if_pos c, ← e1]
        · rw [if_neg (show ¬ (a : Int) = e.f0 by omega), if_pos (show (a : Int) = e.f1 by omega), if_neg c, ← e0]
      have bp := o3 _ _ hp
      have bq := o3 _ _ hq
      have w1 : wrap64 ((p.1 : Int) + e.f2) = ((p.1 + e.f2.toNat : Nat) : Int) := by rw [w64 (by omega) (by omega)]; omega
      have w2 : wrap64 ((p.2 : Int) + 1) = ((p.2 + 1 : Nat) : Int) := by rw [w64 (by omega) (by omega)]; omega
      simp only [hot, Option.bind_some, if_true, encF_length, hlen, if_pos (show (0 : Int) ≤ (oth e a : Int) by omega), if_pos (show (oth e a : Int) < (n.toNat : Int) by omega), if_pos (show (0 : Int) ≤ (a : Int) by omega), if_pos (show (a : Int) < (n.toNat : Int) by omega), rd_encF s (oth e a) (by rw [hlen]; exact hoN), rd_encF s a (by rw [hlen]; exact haN), hp, hq, e63, w1, w2]
      clear w1 w2
      have ht2 : tightB s a e = (decide (p.1 + e.f2.toNat = q.1) && decide (p.2 + 1 = q.2)) := by unfold tightB; rw [ci, hp, hq]; rfl
      by_cases c1 : p.1 + e.f2.toNat = q.1
      · simp only [if_pos (show ((p.1 + e.f2.toNat : Nat) : Int) = (q.1 : Int) by omega)]
        by_cases c2 : p.2 + 1 = q.2
        · rw [if_pos (by rw [ht2, decide_eq_true c1, decide_eq_true c2]; rfl)] at hf
          have := Option.some.inj hf
          injection this with g1 g2
          subst g1 g2
          simp only [if_pos (show ((p.2 + 1 : Nat) : Int) = (q.2 : Int) by omega), if_pos (show acc.length < 17592186044416 by omega)]
          exact hr
        · rw [if_neg (by rw [ht2, decide_eq_false c2]; simp)] at hf
          simp only [if_neg (show ¬ ((p.2 + 1 : Nat) : Int) = (q.2 : Int) by omega)]
          exact ih (j + 1) h3 (by omega) hf
      · rw [if_neg (by rw [ht2, decide_eq_false c1]; simp)] at hf
        simp only [if_neg (show ¬ ((p.1 + e.f2.toNat : Nat) : Int) = (q.1 : Int) by omega)]
        exact ih (j + 1) h3 (by omega) hf
    · have ci' : inc1 e a = false := by simpa using ci
      have ht2 : tightB s a e = false := by unfold tightB; rw [ci']; rfl
      rw [if_neg (by rw [ht2]; simp)] at hf
      have hot : impl_Edge_other.f e.f0 e.f1 e.f2 e.f3 (a : Int) = some (0, false) := by
        unfold impl_Edge_other.f
        unfold inc1 at ci'
        rw [Bool.or_eq_false_iff, decide_eq_false_iff_not, decide_eq_false_iff_not] at ci'
        rw [if_neg (show ¬ (a : Int) = e.f0 by omega), if_neg (show ¬ (a : Int) = e.f1 by omega)]
      simp only [hot, Option.bind_some, Bool.false_eq_true, if_false]
      exact ih (j + 1) h3 (by omega) hf
theorem impl_path_l0 (from_ : Nat) (hf : from_ < n.toNat) (m : Nat) : ∀ (a : Nat) (acc : List Int) (q : Nat × Nat), BL.get (CN.bestL (adjE es) n.toNat t) a = some q → q.2 = m → acc.length + m ≤ 8000 →
    Ev (fun k => impl_Shortest.l0 k (from_ : Int) (t : Int) (encF (CN.bestL (adjE es) n.toNat t)) acc (a : Int) n es) (acc ++ encN (pathL (CN.bestL (adjE es) n.toNat t) es m a), (e63 (BL.get (CN.bestL (adjE es) n.toNat t) from_)).f0) := by
  have hlen := CN.bestL_length (adjE es) n.toNat t
  induction m with
  | zero =>
    intro a acc q hq h0 _
    obtain rfl := (zero_end hb ht hq).1 h0
    refine Ev.step (fun k => by rw [impl_Shortest.l0]) ?_
    simp only [if_true, encF_length, hlen, if_pos (show (0 : Int) ≤ (from_ : Int) by omega), if_pos (show (from_ : Int) < (n.toNat : Int) by omega), rd_encF _ from_ (show from_ < (CN.bestL (adjE es) n.toNat a).length by rw [hlen]; exact hf), pathL, encN, List.map_nil, List.append_nil]
    exact ev_some
  | succ m ih =>
    intro a acc q hq h0 hl
    have hat : a ≠ t := fun e => by have := (zero_end hb ht hq).2 e; omega
    obtain ⟨i, b, hfind⟩ := findT_some es 0 (tight_edge hb ht hq hat)
    obtain ⟨e, _, hte, hbo, _, _⟩ := findT_is es 0 i b hfind
    obtain ⟨_, p, q', hp, hq', _, h5⟩ := tight_parts hte
    rw [hq] at hq'
    have hqq := Option.some.inj hq'
    subst hqq
    have hgo := ih b (acc ++ [(i : Int)]) p (by rw [hbo]; exact hp) (by omega) (by simp; omega)
    refine Ev.step (fun k => by rw [impl_Shortest.l0]) ?_
    simp only [if_neg (show ¬ (a : Int) = (t : Int) by omega)]
    refine impl_path_l1 hb t ht from_ acc (by omega) a q hq _ i b ?_ es 0 rfl (by omega) hfind
    have e1 : acc ++ encN (pathL (CN.bestL (adjE es) n.toNat t) es (m + 1) a) = (acc ++ [(i : Int)]) ++ encN (pathL (CN.bestL (adjE es) n.toNat t) es m b) := by
      rw [List.append_assoc]
      congr 1
      show encN (match findT (CN.bestL (adjE es) n.toNat t) a es 0 with | none => [] | some (j, b) => j :: pathL (CN.bestL (adjE es) n.toNat t) es m b) = _
      rw [hfind]; rfl
    rw [e1]
    exact hgo
end
theorem impl_short_ev (n : Int) (es : List S54) (he : es.length ≤ 2000000) (a t : Int) : Ev (fun k => impl_Shortest.f k n es a t) (shortR n es a t) := by
  unfold impl_Shortest.f shortR
  have hno : ∀ r, r = ([], -1) → Ev (fun k => impl_Shortest.j0 k a t true n es) r := fun r hr => by
    rw [hr]; exact Ev.step (fun k => by rw [impl_Shortest.j0]) (by simpa using ev_some)
  refine Ev.bind (impl_net_ev n es he) ?_
  by_cases c0 : netB n es = true
  · obtain ⟨n1, n2, _⟩ := netB_parts c0
    simp only [if_pos c0, impl_node n n1, Option.bind_some, decide_eq_true_eq]
    by_cases c1 : 0 ≤ a ∧ a ≤ n - 1
    · simp only [if_pos c1]
      by_cases c2 : 0 ≤ t ∧ t ≤ n - 1
      · simp only [decide_eq_true c2, Bool.not_true]
        rw [if_pos ⟨c0, c1, c2⟩]
        refine Ev.step (fun k => by rw [impl_Shortest.j0]) ?_
        simp only [Bool.false_eq_true, if_false]
        refine Ev.bind (impl_dist_ev c0 t c2.1 (by omega)) ?_
        have hlen := CN.bestL_length (adjE es) n.toNat t.toNat
        have hrd := rd_encF (CN.bestL (adjE es) n.toNat t.toNat) a.toNat (by rw [hlen]; omega)
        rw [← nat_of c1.1] at hrd
        simp only [if_pos c1.1, encF_length, hlen, if_pos (show a < (n.toNat : Int) by omega), hrd]
        have hg := CN.bestL_get (A := adjE es) (n := n.toNat) (t := t.toNat) (v := a.toNat) (by omega)
        cases hd : CN.dist (adjE es) t.toNat a.toNat with
        | none =>
          rw [hd] at hg
          simp only [hg, e63, Bool.false_eq_true, if_false]
          exact ev_some
        | some p =>
          rw [hd] at hg
          simp only [hg, e63, if_true]
          obtain ⟨d1, d2, d3⟩ := ds_in c0
          obtain ⟨_, _, o3⟩ := CN.bestL_ok (n := n.toNat) (t := t.toNat) (by omega) d1 d2 d3
          have bp := o3 _ _ hg
          rw [dsS_length] at bp
          have hmul : 2 * es.length * n.toNat ≤ 2 * 60 * 30 := Nat.mul_le_mul (by omega) (by omega)
          have h := impl_path_l0 c0 t.toNat (by omega) a.toNat (by omega) p.2 a.toNat [] p hg rfl (by simp; omega)
          rw [hg, ← nat_of c1.1, ← nat_of c2.1] at h
          simpa [e63] using h
      · simp only [decide_eq_false c2, Bool.not_false]
        exact hno _ (by rw [if_neg (fun h => c2 h.2.2)])
    · simp only [if_neg c1]
      exact hno _ (by rw [if_neg (fun h => c1 h.2.1)])
  · simp only [if_neg c0]
    exact hno _ (by rw [if_neg (fun h => c0 h.1)])
theorem within_loop (xs : List Int) (hn : xs.length ≤ 2000000) (x : Int) : ∀ (rest : List Int) (j : Nat), xs.drop j = rest → j ≤ xs.length → Ev (fun k => laws_within.l0 k xs x (j : Int)) (rest.contains x) := by
  intro rest
  induction rest with
  | nil =>
    intro j h hl
    have := drop_nil h
    refine Ev.step (fun k => by rw [laws_within.l0]) ?_
    simp only [if_neg (show ¬ (j : Int) < (xs.length : Int) by omega)]
    exact ev_some
  | cons y rest ih =>
    intro j h hl
    obtain ⟨h1, h2, h3⟩ := drop_cons h
    refine Ev.step (fun k => by rw [laws_within.l0]) ?_
    simp only [if_pos (show (j : Int) < (xs.length : Int) by omega), if_pos (show 0 ≤ (j : Int) by omega), rdI_at, h2, nat_w (show j ≤ 9223372036854775806 by omega), List.contains_cons]
    by_cases c : y = x
    · have : (x == y) = true := by simp [c]
      simp only [if_pos c, this, Bool.true_or]; exact ev_some
    · have : (x == y) = false := by simp [Ne.symm c]
      simp only [if_neg c, this, Bool.false_or]; exact ih (j + 1) h3 (by omega)
theorem within_ev (xs : List Int) (hn : xs.length ≤ 2000000) (x : Int) : Ev (fun k => laws_within.f k xs x) (xs.contains x) := by
  unfold laws_within.f
  exact within_loop xs hn x xs 0 rfl (by omega)
theorem sameInts_ev (xs : List Int) (hn : xs.length ≤ 2000000) : Ev (fun k => laws_sameInts.f k xs xs) true := by
  unfold laws_sameInts.f
  simp only [if_true]
  refine all_loop xs.length (fun k i => laws_sameInts.l0 k xs xs i) (by omega) (fun k j hj => ?_) (fun k => ?_) xs.length 0 (by omega) (by omega)
  · simp [laws_sameInts.l0, hj]
  · simp [laws_sameInts.l0]
theorem encN_has (xs : List Nat) (v : Nat) : (encN xs).contains (v : Int) = decide (v ∈ xs) := by
  induction xs with
  | nil => simp [encN]
  | cons x xs ih =>
    have e : encN (x :: xs) = (x : Int) :: encN xs := rfl
    rw [e, List.contains_cons, ih]
    by_cases c : v = x
    · subst c; simp
    · have : ((v : Int) == (x : Int)) = false := by
        rw [beq_eq_false_iff_ne]; omega
      rw [this, Bool.false_or]
      simp [c]
theorem bridge_has (es : List S54) {j : Nat} (hj : j < es.length) : (encN (bridgeL es)).contains (j : Int) = apartB es j := by
  rw [encN_has]
  unfold bridgeL
  by_cases c : apartB es j = true
  · rw [c, decide_eq_true_eq]; exact List.mem_filter.2 ⟨List.mem_range.2 hj, c⟩
  · rw [(by simpa using c : apartB es j = false), decide_eq_false_iff_not]; exact fun h => c (List.mem_filter.1 h).2
theorem bridge_low (es : List S54) (j : Nat) : (CN.lowest (adjE (cutL es j)) (es.getD j z54).f0.toNat : Int) = (CN.lowest (adjE (cutL es j)) (es.getD j z54).f1.toNat : Int) ↔ apartB es j = false := by
  unfold apartB
  constructor
  · intro h
    have hC := (CN.lowest_iff (adj_symm (cutL es j))).1 (show CN.lowest (adjE (cutL es j)) (es.getD j z54).f0.toNat = CN.lowest (adjE (cutL es j)) (es.getD j z54).f1.toNat by omega)
    rw [CN.dist_isSome.2 hC]; rfl
  · intro h
    rw [Bool.not_eq_false'] at h
    have := (CN.lowest_iff (adj_symm (cutL es j))).2 (CN.dist_isSome.1 h)
    omega
section
variable {n : Int} {es : List S54} (hb : netB n es = true)
include hb
theorem bridges_l0 (d : Nat) : ∀ j : Nat, es.length - j = d → j ≤ es.length → Ev (fun k => laws_FnBridges.l0 k (encN (bridgeL es)) (j : Int) n es) true := by
  obtain ⟨n1, he, _⟩ := netB_parts hb
  induction d with
  | zero =>
    intro j h0 h1
    obtain rfl : j = es.length := by omega
    refine Ev.step (fun k => by rw [laws_FnBridges.l0]) ?_
    simp only [if_neg (Int.lt_irrefl _)]
    exact ev_some
  | succ d ih =>
    intro j h0 h1
    have hgo := ih (j + 1) (by omega) (by omega)
    have hj : j < es.length := by omega
    have hm : es.getD j z54 ∈ es := by
      rw [List.getD_eq_getElem?_getD, List.getElem?_eq_getElem hj]; exact List.getElem_mem _
    obtain ⟨i1, i2, i3, i4, i5⟩ := edge_in hb hm
    have hcut := impl_cut_ev n es (by omega) (j : Int)
    unfold cutR at hcut
    rw [if_pos ⟨hb, by omega, by omega⟩, Int.toNat_natCast] at hcut
    have hc := cutL_net hb hj
    have hparts := impl_Parts_ev n (cutL es j) (by rw [cutL_length hj]; omega)
    unfold partsR at hparts
    rw [if_pos hc] at hparts
    have hl := cutL_length hj
    have hbl : (bridgeL es).length ≤ 60 := by
      have := List.length_filter_le (apartB es) (List.range es.length)
      rw [List.length_range] at this
      unfold bridgeL; omega
    have h0' := rd_encN (CN.partsL (adjE (cutL es j)) n.toNat) (es.getD j z54).f0.toNat
    rw [← nat_of (show 0 ≤ (es.getD j z54).f0 by omega), CN.partsL_at (by omega)] at h0'
    have h1' := rd_encN (CN.partsL (adjE (cutL es j)) n.toNat) (es.getD j z54).f1.toNat
    rw [← nat_of (show 0 ≤ (es.getD j z54).f1 by omega), CN.partsL_at (by omega)] at h1'
    have hw := w64 (x := (es.length : Int) - 1) (by omega) (by omega)
    refine Ev.step (fun k => by rw [laws_FnBridges.l0]) ?_
    simp only [if_pos (show (j : Int) < (es.length : Int) by omega)]
    refine Ev.bind hcut (Ev.bind hparts ?_)
    simp only [hw, hl, if_pos (show ((es.length - 1 : Nat) : Int) = (es.length : Int) - 1 by omega), encN_length (CN.partsL (adjE (cutL es j)) n.toNat), CN.partsL_length, if_pos (show ((n.toNat : Nat) : Int) = n by omega), if_pos (show 0 ≤ (j : Int) by omega), rd54_at, if_pos i5.1, if_pos i5.2.1, if_pos (show (es.getD j z54).f0 < (n.toNat : Int) by omega), if_pos (show (es.getD j z54).f1 < (n.toNat : Int) by omega), h0', h1', nat_w (show j ≤ 9223372036854775806 by omega)]
    refine Ev.bind (within_ev _ (by rw [encN_length]; omega) (j : Int)) ?_
    rw [bridge_has es hj]
    have hs := impl_short_ev n es (by omega) (es.getD j z54).f0 (es.getD j z54).f1
    by_cases c : apartB es j = false
    · have hlow := (bridge_low es j).2 c
      simp only [hlow, bne_self_eq_false, c, Bool.false_eq_true, if_false, if_true]
      exact Ev.bind hs hgo
    · have c' : apartB es j = true := by simpa using c
      have hlow : ¬ _ := fun h => c ((bridge_low es j).1 h)
      have hne : ((CN.lowest (adjE (cutL es j)) (es.getD j z54).f0.toNat : Int) != (CN.lowest (adjE (cutL es j)) (es.getD j z54).f1.toNat : Int)) = true := by rw [bne_iff_ne]; exact hlow
      simp only [hne, c', bne_self_eq_false, Bool.false_eq_true, if_false, if_neg hlow]
      refine Ev.bind hs ?_
      have hsl := shortR_length n es (es.getD j z54).f0 (es.getD j z54).f1
      refine Ev.bind (within_ev _ (by omega) (j : Int)) ?_
      have hin : (shortR n es (es.getD j z54).f0 (es.getD j z54).f1).1.contains (j : Int) = true := by
        have hsb := short_bridge hb hj c'
        unfold shortR
        rw [if_pos ⟨hb, by omega, by omega⟩]
        have hadj : adjE es (es.getD j z54).f0.toNat (es.getD j z54).f1.toNat (es.getD j z54).f2.toNat := by
          rw [adj_iff]; exact ⟨_, hm, rfl, Or.inl ⟨rfl, rfl⟩⟩
        obtain ⟨q, hq⟩ := CN.dist_of (LB.C.edge hadj)
        rw [hq, Option.getD_some] at hsb
        simp only [hq]
        rw [encN_has, decide_eq_true_eq]
        exact hsb
      rw [hin]
      simp only [if_true]
      exact hgo
end
theorem FnBridges : laws_FnBridges.PureR := by
  intro l ⟨_, hw⟩
  refine Ev.rounds ?_
  unfold laws_FnBridges.f laws_big.f
  simp only [Option.bind_some, decide_eq_true_eq]
  by_cases h : (l.length : Int) > 1048576
  · simp only [if_pos h]; exact ev_some
  · simp only [if_neg h]
    have hll : l.length ≤ 2000000 := by omega
    obtain ⟨n, es, ed, hb, hn, he⟩ := draw_net_ev l hll
    refine Ev.bind ed (Ev.bind (impl_bridges_ev n es (by omega)) (Ev.bind (spec_bridges_ev n es (by omega)) (Ev.bind (sameInts_ev _ (by have := bridgeR_length (n := n) (es := es); omega)) ?_)))
    simp only [if_true]
    unfold bridgeR
    rw [if_pos hb]
    exact bridges_l0 hb _ 0 rfl (by omega)

end Go.Proofs.Ytdeleoghaabjlaa.Pure
