/- The program's Later returns what the reference's returns, for all patterns and numbers of days. -/
import Derived.Test.YtgjhlkjfdlkndaaRowFnExactLater
namespace Go.Proofs.Ytgjhlkjfdlkndaa.Pure
open Go.RowKit Go.Proofs.Ytgjhlkjfdlkndaa.PFnExactLater Go.Proofs.YtgjhlkjfdlkndaaW.PrintWords Go.Proofs.YtgjhlkjfdlkndaaW.PrintLast Go.Proofs.YtgjhlkjfdlkndaaW.PrintMore
set_option linter.unusedVariables false
set_option linter.unusedSimpArgs false
theorem w64 {x : Int} (h0 : -9223372036854775808 ≤ x) (h1 : x ≤ 9223372036854775807) : wrap64 x = x := by unfold wrap64; omega
theorem ev_k {α : Type} {g : Nat → Option α} {r : α} (h : ∀ k, g k = some r) : Ev g r := ⟨0, fun k _ => h k⟩
theorem ev_some {α : Type} {r : α} : Ev (fun _ => some r) r := Ev.now r
theorem wf_i64 {x : Int} (h : (Lit.int .i64 x).wf = true) : -9223372036854775808 ≤ x ∧ x ≤ 9223372036854775807 := by
  simp only [Lit.wf, Bool.and_eq_true, decide_eq_true_eq] at h
  have h1 : IntKind.min .i64 = -9223372036854775808 := by decide
  have h2 : IntKind.max .i64 = 9223372036854775807 := by decide
  omega
theorem wf_u8 {x : Int} (h : (Lit.int .u8 x).wf = true) : 0 ≤ x ∧ x ≤ 255 := by
  simp only [Lit.wf, Bool.and_eq_true, decide_eq_true_eq] at h
  have h1 : IntKind.min .u8 = 0 := by decide
  have h2 : IntKind.max .u8 = 255 := by decide
  omega
/-! Loops over lists, whatever the elements. -/
theorem nat_w {j : Nat} (h : j ≤ 9223372036854775806) : wrap64 ((j : Int) + 1) = ((j + 1 : Nat) : Int) := by rw [w64 (by omega) (by omega)]; omega
theorem set_take {α : Type} {acc ys : List α} {j : Nat} (hl : acc.length = ys.length) (ht : acc.take j = ys.take j) (hj : j < ys.length) {v : α} (hv : ys[j]? = some v) : (acc.set j v).take (j + 1) = ys.take (j + 1) := by
  apply List.ext_getElem?
  intro i
  by_cases hi : i < j + 1
  · rw [List.getElem?_take_of_lt hi, List.getElem?_take_of_lt hi]
    by_cases e : i = j
    · subst e
      rw [List.getElem?_set_self (by omega), hv]
    · rw [List.getElem?_set_ne (by omega)]
      have h1 := congrArg (fun l => l[i]?) ht
      simp only [List.getElem?_take_of_lt (show i < j by omega)] at h1
      exact h1
  · rw [List.getElem?_eq_none (by simp; omega), List.getElem?_eq_none (by simp; omega)]
theorem getD_some {α : Type} {xs : List α} {j : Nat} (h : j < xs.length) (d : α) : xs[j]? = some (xs.getD j d) := by
  rw [List.getD_eq_getElem?_getD, List.getElem?_eq_getElem h]; rfl
/-- A loop that writes g of each element of xs into a row of the same length. -/
theorem copy_loop {α β : Type} (g : β → α) (d : β) (xs : List β) (L : Nat → List α → Int → Option (List α)) (hn : xs.length ≤ 9223372036854775806)
    (hs : ∀ k acc (j : Nat), L (k + 1) acc (j : Int) = if j < xs.length then (if j < acc.length then L k (acc.set j (g (xs.getD j d))) (wrap64 ((j : Int) + 1)) else none) else some acc)
    (m : Nat) : ∀ (j : Nat) (acc : List α), xs.length - j = m → j ≤ xs.length → acc.length = xs.length → acc.take j = (xs.map g).take j → Ev (fun k => L k acc (j : Int)) (xs.map g) := by
  induction m with
  | zero =>
    intro j acc h0 h1 h2 h3
    refine Ev.step (fun k => hs k acc j) ?_
    simp only [if_neg (show ¬ j < xs.length by omega)]
    have e : acc = xs.map g := by
      have h4 : acc.take j = acc := List.take_of_length_le (by omega)
      have h5 : (xs.map g).take j = xs.map g := List.take_of_length_le (by simp; omega)
      rw [← h4, h3, h5]
    rw [e]
    exact ev_some
  | succ m ih =>
    intro j acc h0 h1 h2 h3
    refine Ev.step (fun k => hs k acc j) ?_
    simp only [if_pos (show j < xs.length by omega), if_pos (show j < acc.length by omega)]
    rw [nat_w (by omega)]
    refine ih (j + 1) _ (by omega) (by omega) (by simpa using h2) ?_
    refine set_take (by simpa using h2) h3 (by simp; omega) ?_
    rw [List.getElem?_map, getD_some (show j < xs.length by omega) d]
    rfl
/-- A loop that asks each index, and goes on where the answer is yes. -/
theorem all_loop (n : Nat) (L : Nat → Int → Option Bool) (hn : n ≤ 9223372036854775806) (hs : ∀ k (j : Nat), j < n → L (k + 1) (j : Int) = L k (wrap64 ((j : Int) + 1))) (he : ∀ k, L (k + 1) (n : Int) = some true)
    (m : Nat) : ∀ j : Nat, n - j = m → j ≤ n → Ev (fun k => L k (j : Int)) true := by
  induction m with
  | zero =>
    intro j h0 h1
    obtain rfl : j = n := by omega
    exact Ev.step (fun k => he k) ev_some
  | succ m ih =>
    intro j h0 h1
    refine Ev.step (fun k => hs k j (by omega)) ?_
    rw [nat_w (by omega)]
    exact ih (j + 1) (by omega) (by omega)
/-- The elements one behind the other, each turned by f with a number that goes on by c. -/
def marked {α : Type} (c : Int) (f : Int → α → α) : Int → List α → List α
  | _, [] => []
  | s, x :: xs => f s x :: marked c f (s + c) xs
theorem marked_length {α : Type} (c : Int) (f : Int → α → α) : ∀ (s : Int) (xs : List α), (marked c f s xs).length = xs.length
  | _, [] => rfl
  | s, x :: xs => by simp [marked, marked_length c f (s + c) xs]
theorem marked_at {α : Type} (c : Int) (f : Int → α → α) : ∀ (s : Int) (xs : List α) (j : Nat) (d : α), j < xs.length → (marked c f s xs)[j]? = some (f (s + c * j) (xs.getD j d))
  | _, [], j, d, h => by simp at h
  | s, x :: xs, 0, d, _ => by simp [marked]
  | s, x :: xs, j + 1, d, h => by
    have := marked_at c f (s + c) xs j d (by simpa using h)
    simp only [marked, List.getElem?_cons_succ, List.getD_cons_succ]
    rw [this]
    congr 2
    rw [Int.natCast_succ, Int.mul_add]; omega
/-- A loop that marks a row. -/
theorem mark_loop {α : Type} (c : Nat) (hc : c ≤ 8) (f : Int → α → α) (d : α) (xs : List α) (L : Nat → List α → Int → Int → Option (Int × List α)) (hn : xs.length ≤ 2000000) (s0 : Nat) (hs0 : s0 ≤ 20000000)
    (hs : ∀ k acc (s : Nat) (j : Nat), acc.length = xs.length → s ≤ 40000000 → j < xs.length → L (k + 1) acc (s : Int) (j : Int) = L k (acc.set j (f (s : Int) (acc.getD j d))) ((s + c : Nat) : Int) (wrap64 ((j : Int) + 1)))
    (he : ∀ k acc (s : Int), acc.length = xs.length → L (k + 1) acc s (xs.length : Int) = some (s, acc))
    (m : Nat) : ∀ (j : Nat) (acc : List α), xs.length - j = m → j ≤ xs.length → acc.length = xs.length → acc.take j = (marked c f s0 xs).take j → acc.drop j = xs.drop j → Ev (fun k => L k acc ((s0 + c * j : Nat) : Int) (j : Int)) (((s0 + c * xs.length : Nat) : Int), marked c f s0 xs) := by
  induction m with
  | zero =>
    intro j acc h0 h1 h2 h3 _
    obtain rfl : j = xs.length := by omega
    refine Ev.step (fun k => he k acc _ h2) ?_
    have e : acc = marked c f s0 xs := by
      have h4 : acc.take xs.length = acc := List.take_of_length_le (by omega)
      have h5 : (marked c f s0 xs).take xs.length = marked c f s0 xs := List.take_of_length_le (by rw [marked_length]; omega)
      rw [← h4, h3, h5]
    rw [e]
    exact ev_some
  | succ m ih =>
    intro j acc h0 h1 h2 h3 h4
    have hb : c * j ≤ 8 * 2000000 := Nat.mul_le_mul hc (by omega)
    refine Ev.step (fun k => hs k acc _ j h2 (by omega) (by omega)) ?_
    rw [nat_w (by omega), show s0 + c * j + c = s0 + c * (j + 1) by rw [Nat.mul_add]; omega]
    have hg : acc.getD j d = xs.getD j d := by
      have h5 := congrArg (fun l => l[0]?) h4
      simp only [List.getElem?_drop, Nat.add_zero] at h5
      rw [List.getD_eq_getElem?_getD, List.getD_eq_getElem?_getD, h5]
    refine ih (j + 1) _ (by omega) (by omega) (by simpa using h2) ?_ ?_
    · refine set_take (by rw [marked_length]; exact h2) h3 (by rw [marked_length]; omega) ?_
      rw [marked_at c f s0 xs j d (by omega), hg]
      simp
    · rw [List.drop_set_of_lt (by omega), ← List.drop_drop, h4, List.drop_drop]
/-- A loop that looks whether a row is marked so. -/
theorem held_loop (c : Nat) (hc : c ≤ 8) (n : Nat) (L : Nat → Int → Int → Option Int) (hn : n ≤ 2000000) (s0 : Nat) (hs0 : s0 ≤ 20000000)
    (hs : ∀ k (j : Nat), j < n → L (k + 1) ((s0 + c * j : Nat) : Int) (j : Int) = L k ((s0 + c * j + c : Nat) : Int) (wrap64 ((j : Int) + 1)))
    (he : ∀ k (s : Int), L (k + 1) s (n : Int) = some s)
    (m : Nat) : ∀ j : Nat, n - j = m → j ≤ n → Ev (fun k => L k ((s0 + c * j : Nat) : Int) (j : Int)) (((s0 + c * n : Nat) : Int)) := by
  induction m with
  | zero =>
    intro j h0 h1
    obtain rfl : j = n := by omega
    exact Ev.step (fun k => he k _) ev_some
  | succ m ih =>
    intro j h0 h1
    refine Ev.step (fun k => hs k j (by omega)) ?_
    rw [nat_w (by omega), show s0 + c * j + c = s0 + c * (j + 1) by rw [Nat.mul_add]; omega]
    exact ih (j + 1) (by omega) (by omega)
theorem drop_cons {α : Type} {xs : List α} {j : Nat} {t : α} {rest : List α} (h : xs.drop j = t :: rest) : j < xs.length ∧ (∀ d, xs.getD j d = t) ∧ xs.drop (j + 1) = rest := by
  have hj : j < xs.length := by
    rcases Nat.lt_or_ge j xs.length with h1 | h1
    · exact h1
    · rw [List.drop_of_length_le h1] at h; cases h
  rw [List.drop_eq_getElem_cons hj] at h
  injection h with h1 h2
  exact ⟨hj, fun d => by rw [List.getD_eq_getElem?_getD, List.getElem?_eq_getElem hj, ← h1]; rfl, h2⟩
theorem drop_nil {α : Type} {xs : List α} {j : Nat} (h : xs.drop j = []) : xs.length ≤ j := by simpa using h
theorem rdI_at (xs : List Int) (j : Nat) : rd xs (j : Int) = xs.getD j 0 := by unfold rd; rw [Int.toNat_natCast]
theorem rdB_at (xs : List Bool) (j : Nat) : rdOf false xs (j : Int) = xs.getD j false := by unfold rdOf; rw [Int.toNat_natCast]
theorem spec_in (x lo hi : Int) : spec_l01In.f x lo hi = some (decide (lo ≤ x ∧ x ≤ hi)) := by
  unfold spec_l01In.f
  by_cases h : lo ≤ x <;> simp [h]
theorem impl_in (x lo hi : Int) : impl_between.f x lo hi = some (decide (lo ≤ x ∧ x ≤ hi)) := by
  unfold impl_between.f
  by_cases h : x ≥ lo
  · have h' : lo ≤ x := h
    simp [h, h']
  · have h' : ¬ lo ≤ x := h
    simp [h, h']
/-! Days and patterns. -/
def wk (w d : Int) : Bool := Go.bits .and .i64 (shr .i64 w (Int.tmod d 7)) 1 == 1
def prevOk (xs : List Int) (j : Nat) : Bool := j == 0 || decide (xs.getD (j - 1) 0 < xs.getD j 0)
def dayB (w f t : Int) (b : Bool) (xs : List Int) (j : Nat) (d : Int) : Bool := decide (f ≤ d ∧ d ≤ t) && prevOk xs j && (wk w d == b)
def daysB (w f t : Int) (b : Bool) (xs : List Int) : Nat → List Int → Bool
  | _, [] => true
  | j, d :: ds => dayB w f t b xs j d && daysB w f t b xs (j + 1) ds
def patB (w f t : Int) (ns al : List Int) : Bool :=
  decide (0 ≤ w ∧ w ≤ 127) && decide (0 ≤ f ∧ f ≤ t ∧ t ≤ 3650) && (decide (ns.length ≤ 20) && daysB w f t true ns 0 ns) && (decide (al.length ≤ 20) && daysB w f t false al 0 al)
def onB (w f t : Int) (ns al : List Int) (d : Int) : Bool := decide (f ≤ d ∧ d ≤ t) && (if wk w d = true then !decide (d ∈ ns) else decide (d ∈ al))
theorem daysB_all {w f t : Int} {b : Bool} {xs : List Int} : ∀ (l : List Int) (j : Nat), daysB w f t b xs j l = true → ∀ d ∈ l, (f ≤ d ∧ d ≤ t) ∧ wk w d = b
  | [], _, _, d, h => by cases h
  | x :: l, j, h, d, hd => by
    simp only [daysB, dayB, Bool.and_eq_true, decide_eq_true_eq, beq_iff_eq] at h
    rcases List.mem_cons.mp hd with rfl | h2
    · exact ⟨h.1.1.1, h.1.2⟩
    · exact daysB_all l (j + 1) h.2 d h2
theorem toIntS_ev (xs : List Int) (hn : xs.length ≤ 2000000) : Ev (fun k => laws_toIntS.f k xs) xs := by
  unfold laws_toIntS.f
  simp only [if_pos (show 0 ≤ (xs.length : Int) by omega), if_pos (show ((xs.length : Int)).toNat ≤ 35184372088832 by omega)]
  have h := copy_loop (fun b : Int => b) 0 xs (fun k acc i => laws_toIntS.l0 k xs acc i) (by omega) (fun k acc j => by
    simp only [laws_toIntS.l0, rd, Int.toNat_natCast, if_pos (show 0 ≤ (j : Int) by omega), Int.ofNat_lt]) xs.length 0 (List.replicate xs.length 0) (by omega) (by omega) (by simp) (by simp)
  simpa using h
theorem eqIntS_ev (xs : List Int) (hn : xs.length ≤ 2000000) : Ev (fun k => laws_eqIntS.f k xs xs) true := by
  unfold laws_eqIntS.f
  simp only [if_true]
  refine all_loop xs.length (fun k i => laws_eqIntS.l0 k xs xs i) (by omega) (fun k j hj => ?_) (fun k => ?_) xs.length 0 (by omega) (by omega)
  · simp [laws_eqIntS.l0, hj]
  · simp [laws_eqIntS.l0]
theorem sz_int (xs : List Int) (a : Int) (h0 : 0 ≤ a) (h1 : a ≤ 9223372036854775807) (hn : xs.length ≤ 9223372036854775807) : laws_szIntS.f xs a = some (if a - xs.length < 0 then -1 else a - xs.length) := by
  unfold laws_szIntS.f
  rw [w64 (x := a - (xs.length : Int)) (by omega) (by omega)]
  split <;> rfl
theorem sz_pat (w f t : Int) (ns al : List Int) (hn : ns.length ≤ 9223372036854775807) (ha : al.length ≤ 9223372036854775807) : ∃ r, laws_szPattern.f w f t ns al 1048576 = some r ∧ (r < 0 ∨ (ns.length ≤ 1048576 ∧ al.length ≤ 1048576)) := by
  unfold laws_szPattern.f
  rw [sz_int ns 1048576 (by omega) (by omega) hn]
  simp only [Option.bind_some]
  by_cases c : (1048576 : Int) - ns.length < 0
  · simp only [if_pos c, if_pos (show (-1 : Int) < 0 by decide)]
    exact ⟨_, rfl, Or.inl (by decide)⟩
  · simp only [if_neg c]
    rw [sz_int al _ (by omega) (by omega) ha]
    simp only [Option.bind_some]
    by_cases c2 : (1048576 : Int) - ns.length - al.length < 0
    · simp only [if_pos c2, if_pos (show (-1 : Int) < 0 by decide)]
      exact ⟨_, rfl, Or.inl (by decide)⟩
    · simp only [if_neg c2]
      exact ⟨_, rfl, Or.inr (by omega)⟩
theorem toPat_ev (w f t : Int) (ns al : List Int) (hn : ns.length ≤ 2000000) (ha : al.length ≤ 2000000) : Ev (fun k => laws_toPattern.f k w f t ns al) (w, f, t, ns, al) := by
  unfold laws_toPattern.f
  exact Ev.bind (toIntS_ev ns hn) (Ev.bind (toIntS_ev al ha) ev_some)
theorem eqPat_ev (w f t : Int) (ns al : List Int) (hn : ns.length ≤ 2000000) (ha : al.length ≤ 2000000) : Ev (fun k => laws_eqPattern.f k w f t ns al w f t ns al) true := by
  unfold laws_eqPattern.f
  simp only [if_true]
  refine Ev.bind (eqIntS_ev ns hn) ?_
  simp only [if_true]
  refine Ev.bind (eqIntS_ev al ha) ?_
  simp only [if_true]
  exact ev_some
/-- One weekday moved by r days. -/
def stI (w r : Int) (a : Int) (k : Nat) : Int := if Go.bits .and .i64 (shr .i64 w (k : Int)) 1 = 1 then Go.bits .or .i64 a (shl .i64 1 (((k : Int) + r) % 7)) else a
def stS (w r : Int) (a : Int) (k : Nat) : Int := if wk w (k : Int) = true then wrap64 (a + shl .i64 1 (((k : Int) + r) % 7)) else a
def weekI (w r : Int) : Int := (List.range 7).foldl (stI w r) 0
def weekS (w r : Int) : Int := (List.range 7).foldl (stS w r) 0
theorem chk_week : (List.range 128).all (fun w => (List.range 7).all (fun r => decide (weekI (w : Int) (r : Int) = weekS (w : Int) (r : Int)) && (decide (0 ≤ weekI (w : Int) (r : Int) ∧ weekI (w : Int) (r : Int) ≤ 127) && (List.range 7).all (fun d => wk (weekI (w : Int) (r : Int)) (((d : Int) + (r : Int)) % 7) == wk (w : Int) (d : Int))))) = true := by decide +kernel
theorem week_all {w r : Int} (h0 : 0 ≤ w) (h1 : w ≤ 127) (r0 : 0 ≤ r) (r1 : r < 7) : weekI w r = weekS w r ∧ (0 ≤ weekI w r ∧ weekI w r ≤ 127) ∧ ∀ d : Int, 0 ≤ d → d < 7 → wk (weekI w r) ((d + r) % 7) = wk w d := by
  have h := chk_week
  rw [List.all_eq_true] at h
  have h2 := h w.toNat (List.mem_range.2 (by omega))
  rw [List.all_eq_true] at h2
  have h3 := h2 r.toNat (List.mem_range.2 (by omega))
  rw [Int.toNat_of_nonneg h0, Int.toNat_of_nonneg r0] at h3
  simp only [Bool.and_eq_true, decide_eq_true_eq, List.all_eq_true, beq_iff_eq] at h3
  refine ⟨h3.1, h3.2.1, fun d d0 d1 => ?_⟩
  have h4 := h3.2.2 d.toNat (List.mem_range.2 (by omega))
  rw [Int.toNat_of_nonneg d0] at h4
  exact h4
def moved (n : Int) (l : List Int) : List Int := l.map (· + n)
abbrev Pat := Int × Int × Int × List Int × List Int
def latOk (w f t : Int) (ns al : List Int) (n : Int) : Prop := patB w f t ns al = true ∧ (-3650 ≤ n ∧ n ≤ 3650) ∧ 0 ≤ f + n ∧ t + n ≤ 3650
instance (w f t : Int) (ns al : List Int) (n : Int) : Decidable (latOk w f t ns al n) := by unfold latOk; infer_instance
def latR (w f t : Int) (ns al : List Int) (n : Int) : Pat := if latOk w f t ns al n then (weekI w (n % 7), f + n, t + n, moved n ns, moved n al) else (0, 0, 0, [], [])
theorem patB_len {w f t : Int} {ns al : List Int} (h : patB w f t ns al = true) : (0 ≤ w ∧ w ≤ 127) ∧ (0 ≤ f ∧ f ≤ t ∧ t ≤ 3650) ∧ (∀ d ∈ ns, f ≤ d ∧ d ≤ t) ∧ (∀ d ∈ al, f ≤ d ∧ d ≤ t) ∧ ns.length ≤ 20 ∧ al.length ≤ 20 := by
  simp only [patB, Bool.and_eq_true, decide_eq_true_eq] at h
  exact ⟨h.1.1.1, h.1.1.2, fun d hd => (daysB_all ns 0 h.1.2.2 d hd).1, fun d hd => (daysB_all al 0 h.2.2 d hd).1, h.1.2.1, h.2.1⟩
theorem latR_len (w f t : Int) (ns al : List Int) (n : Int) : (latR w f t ns al n).2.2.2.1.length ≤ 20 ∧ (latR w f t ns al n).2.2.2.2.length ≤ 20 := by
  unfold latR
  split
  · rename_i h
    obtain ⟨_, _, _, _, a, b⟩ := patB_len h.1
    simp only [moved, List.length_map]; exact ⟨a, b⟩
  · exact ⟨Nat.zero_le _, Nat.zero_le _⟩
theorem moved_step (n : Int) (l : List Int) (j : Nat) (h : j < l.length) : moved n (l.take (j + 1)) = moved n (l.take j) ++ [l.getD j 0 + n] := by
  unfold moved
  rw [List.take_add_one, List.getElem?_eq_getElem h, List.map_append, List.getD_eq_getElem?_getD, List.getElem?_eq_getElem h]; rfl
theorem fold_next (g : Int → Nat → Int) (j : Nat) : (List.range (j + 1)).foldl g 0 = g ((List.range j).foldl g 0) j := by
  rw [List.range_succ, List.foldl_append]; rfl
theorem spec_week_ev (w d : Int) (h0 : 0 ≤ d) : spec_l01Week.f w d = some (wk w d) := by
  have h7 : Int.tmod d 7 = d % 7 := Int.tmod_eq_emod_of_nonneg h0
  have hm : spec_l01Mod.f d 7 = some (Int.tmod d 7) := by
    unfold spec_l01Mod.f
    rw [if_neg (by decide), if_neg (by rw [h7]; omega)]
  have hw : IntKind.u64.wrap (Int.tmod d 7) = Int.tmod d 7 := by
    rw [h7]
    have : IntKind.u64.wrap (d % 7) = (d % 7) % 18446744073709551616 := rfl
    rw [this]; omega
  unfold spec_l01Week.f wk
  rw [hm]
  simp only [Option.bind_some, hw]
  rw [if_pos (by rw [h7]; omega)]
theorem spec_days_loop (w f t : Int) (h0 : 0 ≤ f) (b : Bool) (xs ns al : List Int) (hn : xs.length ≤ 2000000) : ∀ (rest : List Int) (j : Nat), xs.drop j = rest → j ≤ xs.length →
    Ev (fun k => spec_l01Days.l0 k xs b (j : Int) w f t ns al) (daysB w f t b xs j rest && decide (xs.length ≤ 20)) := by
  intro rest
  induction rest with
  | nil =>
    intro j h hl
    have := drop_nil h
    refine Ev.step (fun k => by rw [spec_l01Days.l0]) ?_
    simp only [if_neg (show ¬ (j : Int) < (xs.length : Int) by omega), daysB, Bool.true_and]
    have e : decide ((xs.length : Int) ≤ 20) = decide (xs.length ≤ 20) := decide_eq_decide.mpr (by omega)
    rw [e]; exact ev_some
  | cons d rest ih =>
    intro j h hl
    obtain ⟨h1, h2, h3⟩ := drop_cons h
    refine Ev.step (fun k => by rw [spec_l01Days.l0]) ?_
    simp only [if_pos (show (j : Int) < (xs.length : Int) by omega), if_pos (show 0 ≤ (j : Int) by omega), rdI_at, h2, spec_in, Option.bind_some, decide_eq_true_eq]
    by_cases c1 : f ≤ d ∧ d ≤ t
    · have hd : 0 ≤ d := by omega
      simp only [if_pos c1, spec_week_ev w d hd, Option.bind_some, nat_w (show j ≤ 9223372036854775806 by omega)]
      have hi := ih (j + 1) h3 (by omega)
      by_cases c0 : j = 0
      · subst c0
        simp only [if_neg (show ¬ ((0 : Nat) : Int) > 0 by omega)]
        by_cases c2 : wk w d = b
        · subst c2
          simpa [daysB, dayB, c1, prevOk] using hi
        · have c3 : (wk w d != b) = true := by simpa using c2
          simp only [c3, if_true]
          have e : (wk w d == b) = false := by simpa using c2
          simp only [daysB, dayB, e, Bool.and_false, Bool.false_and]
          exact ev_some
      · simp only [if_pos (show (j : Int) > 0 by omega), show (j : Int) - 1 = ((j - 1 : Nat) : Int) by omega, w64 (x := ((j - 1 : Nat) : Int)) (by omega) (by omega), if_pos (show 0 ≤ ((j - 1 : Nat) : Int) by omega), if_pos (show ((j - 1 : Nat) : Int) < (xs.length : Int) by omega), rdI_at]
        by_cases c4 : xs.getD (j - 1) 0 ≥ d
        · simp only [if_pos c4]
          have e : prevOk xs j = false := by
            unfold prevOk; rw [h2]
            simp only [Bool.or_eq_false_iff, beq_eq_false_iff_ne, decide_eq_false_iff_not]
            exact ⟨c0, by omega⟩
          simp only [daysB, dayB, e, Bool.and_false, Bool.false_and]
          exact ev_some
        · simp only [if_neg c4]
          have e : prevOk xs j = true := by
            unfold prevOk; rw [h2]
            simp only [Bool.or_eq_true, decide_eq_true_eq]
            exact Or.inr (by omega)
          by_cases c2 : wk w d = b
          · subst c2
            simpa [daysB, dayB, c1, e] using hi
          · have c3 : (wk w d != b) = true := by simpa using c2
            simp only [c3, if_true]
            have e : (wk w d == b) = false := by simpa using c2
            simp only [daysB, dayB, e, Bool.and_false, Bool.false_and]
            exact ev_some
    · simp only [if_neg c1, daysB, dayB, decide_eq_false c1, Bool.false_and]
      exact ev_some
theorem spec_days_ev (w f t : Int) (h0 : 0 ≤ f) (b : Bool) (xs ns al : List Int) (hn : xs.length ≤ 2000000) : Ev (fun k => spec_l01Days.f k xs w f t ns al b) (decide (xs.length ≤ 20) && daysB w f t b xs 0 xs) := by
  rw [Bool.and_comm]
  exact spec_days_loop w f t h0 b xs ns al hn xs 0 rfl (by omega)
theorem spec_pat_ev (w f t : Int) (ns al : List Int) (hn : ns.length ≤ 2000000) (ha : al.length ≤ 2000000) : Ev (fun k => spec_PatternOk.f k w f t ns al) (patB w f t ns al) := by
  unfold spec_PatternOk.f patB
  simp only [spec_in, Option.bind_some, decide_eq_true_eq]
  by_cases c1 : 0 ≤ w ∧ w ≤ 127
  · by_cases c2 : 0 ≤ t ∧ t ≤ 3650
    · by_cases c3 : 0 ≤ f ∧ f ≤ t
      · simp only [if_pos c1, if_pos c2, if_pos c3]
        rw [decide_eq_true c1, decide_eq_true (show 0 ≤ f ∧ f ≤ t ∧ t ≤ 3650 by omega)]
        simp only [Bool.true_and]
        refine Ev.bind (spec_days_ev w f t c3.1 true ns ns al hn) ?_
        cases hd : (decide (ns.length ≤ 20) && daysB w f t true ns 0 ns) with
        | false => simpa using ev_some
        | true =>
          simp only [if_true, Bool.true_and]
          exact Ev.bind (spec_days_ev w f t c3.1 false al ns al ha) ev_some
      · simp only [if_pos c1, if_pos c2, if_neg c3]
        rw [decide_eq_false (show ¬ (0 ≤ f ∧ f ≤ t ∧ t ≤ 3650) by omega)]
        simpa using ev_some
    · simp only [if_pos c1, if_neg c2]
      rw [decide_eq_false (show ¬ (0 ≤ f ∧ f ≤ t ∧ t ≤ 3650) by omega)]
      simpa using ev_some
  · simp only [if_neg c1, decide_eq_false c1, Bool.false_and]
    exact ev_some
theorem u64_small {x : Int} (h0 : 0 ≤ x) (h1 : x < 7) : IntKind.u64.wrap x = x := by
  have : ∀ m : Nat, m < 7 → IntKind.u64.wrap (m : Int) = (m : Int) := by decide
  have h := this x.toNat (by omega)
  rwa [Int.toNat_of_nonneg h0] at h
theorem spec_mod (x : Int) (h : -100000 ≤ x ∧ x ≤ 100000) : spec_l01Mod.f x 7 = some (x % 7) := by
  unfold spec_l01Mod.f
  simp only [if_neg (show ¬ (7 : Int) = 0 by decide)]
  have e := Int.tmod_eq_emod (a := x) (b := 7)
  by_cases c : Int.tmod x 7 < 0
  · simp only [if_pos c]
    have hb := Int.emod_nonneg x (show (7 : Int) ≠ 0 by decide)
    have hb2 := Int.emod_lt_of_pos x (show (0 : Int) < 7 by decide)
    have : Int.tmod x 7 = x % 7 - 7 := by rw [e] at c ⊢; split at c <;> split <;> simp_all <;> omega
    rw [this, w64 (by omega) (by omega)]
    congr 1; omega
  · simp only [if_neg c]
    have hb := Int.emod_nonneg x (show (7 : Int) ≠ 0 by decide)
    have hb2 := Int.emod_lt_of_pos x (show (0 : Int) < 7 by decide)
    have : Int.tmod x 7 = x % 7 := by rw [e] at c ⊢; split at c <;> split <;> simp_all <;> omega
    rw [this]
section
variable {w f t n : Int} {ns al : List Int} (hp : patB w f t ns al = true) (hn : -3650 ≤ n ∧ n ≤ 3650)
include hp hn
theorem spec_lat_l2 (W F T : Int) (X : List Int) (d : Nat) : ∀ j : Nat, al.length - j = d → j ≤ al.length → Ev (fun k => spec_Later.l2 k n (j : Int) w f t ns al W F T X (moved n (al.take j))) (W, F, T, X, moved n al) := by
  obtain ⟨_, p2, _, p4, _, p6⟩ := patB_len hp
  induction d with
  | zero =>
    intro j h0 h1
    obtain rfl : j = al.length := by omega
    refine Ev.step (fun k => by rw [spec_Later.l2]) ?_
    simp only [if_neg (Int.lt_irrefl _), List.take_length]
    exact ev_some
  | succ d ih =>
    intro j h0 h1
    have hi := ih (j + 1) (by omega) (by omega)
    rw [moved_step n al j (by omega)] at hi
    have hm : al.getD j 0 ∈ al := by rw [List.getD_eq_getElem?_getD, List.getElem?_eq_getElem (show j < al.length by omega)]; exact List.getElem_mem _
    have := p4 _ hm
    refine Ev.step (fun k => by rw [spec_Later.l2]) ?_
    simp only [if_pos (show (j : Int) < (al.length : Int) by omega), if_pos (show 0 ≤ (j : Int) by omega), rdI_at, nat_w (show j ≤ 9223372036854775806 by omega), moved, List.length_map, List.length_take, if_pos (show min j al.length < 17592186044416 by omega), w64 (x := al.getD j 0 + n) (by omega) (by omega)]
    exact hi
theorem spec_lat_l1 (W F T : Int) (d : Nat) : ∀ j : Nat, ns.length - j = d → j ≤ ns.length → Ev (fun k => spec_Later.l1 k n (j : Int) w f t ns al W F T (moved n (ns.take j))) (W, F, T, moved n ns, moved n al) := by
  obtain ⟨_, p2, p3, _, p5, _⟩ := patB_len hp
  induction d with
  | zero =>
    intro j h0 h1
    obtain rfl : j = ns.length := by omega
    refine Ev.step (fun k => by rw [spec_Later.l1]) ?_
    simp only [if_neg (Int.lt_irrefl _), List.take_length]
    exact spec_lat_l2 hp hn W F T _ _ 0 rfl (by omega)
  | succ d ih =>
    intro j h0 h1
    have hi := ih (j + 1) (by omega) (by omega)
    rw [moved_step n ns j (by omega)] at hi
    have hm : ns.getD j 0 ∈ ns := by rw [List.getD_eq_getElem?_getD, List.getElem?_eq_getElem (show j < ns.length by omega)]; exact List.getElem_mem _
    have := p3 _ hm
    refine Ev.step (fun k => by rw [spec_Later.l1]) ?_
    simp only [if_pos (show (j : Int) < (ns.length : Int) by omega), if_pos (show 0 ≤ (j : Int) by omega), rdI_at, nat_w (show j ≤ 9223372036854775806 by omega), moved, List.length_map, List.length_take, if_pos (show min j ns.length < 17592186044416 by omega), w64 (x := ns.getD j 0 + n) (by omega) (by omega)]
    exact hi
theorem spec_lat_l0 (F T : Int) (d : Nat) : ∀ j : Nat, 7 - j = d → j ≤ 7 → Ev (fun k => spec_Later.l0 k n (j : Int) w f t ns al ((List.range j).foldl (stS w (n % 7)) 0) F T) (weekS w (n % 7), F, T, moved n ns, moved n al) := by
  induction d with
  | zero =>
    intro j h0 h1
    obtain rfl : j = 7 := by omega
    refine Ev.step (fun k => by rw [spec_Later.l0]) ?_
    simp only [if_neg (show ¬ ((7 : Nat) : Int) < 7 by omega)]
    exact spec_lat_l1 hp hn _ F T _ 0 rfl (by omega)
  | succ d ih =>
    intro j h0 h1
    have hi := ih (j + 1) (by omega) (by omega)
    rw [fold_next] at hi
    have e1 : ((j : Int) + n) % 7 = ((j : Int) + n % 7) % 7 := by omega
    refine Ev.step (fun k => by rw [spec_Later.l0]) ?_
    simp only [if_pos (show (j : Int) < 7 by omega), spec_week_ev w (j : Int) (by omega), Option.bind_some, nat_w (show j ≤ 9223372036854775806 by omega)]
    by_cases c : wk w (j : Int) = true
    · simp only [stS, if_pos c] at hi
      simp only [if_pos c, w64 (x := (j : Int) + n) (by omega) (by omega), spec_mod ((j : Int) + n) (by omega), Option.bind_some, u64_small (show 0 ≤ ((j : Int) + n) % 7 by omega) (show ((j : Int) + n) % 7 < 7 by omega), if_pos (show 0 ≤ ((j : Int) + n) % 7 by omega)]
      rw [e1]
      exact hi
    · simp only [stS, if_neg c] at hi
      simp only [if_neg c]
      exact hi
end
theorem spec_later_ev (w f t : Int) (ns al : List Int) (n : Int) (h1 : ns.length ≤ 2000000) (h2 : al.length ≤ 2000000) (hf : -9223372036854775808 ≤ f ∧ f ≤ 9223372036854775807) (ht : -9223372036854775808 ≤ t ∧ t ≤ 9223372036854775807) : Ev (fun k => spec_Later.f k w f t ns al n) (latR w f t ns al n) := by
  unfold spec_Later.f latR
  have hno : ∀ r, r = (0, 0, 0, [], []) → Ev (fun k => spec_Later.j0 k n true w f t ns al) r := fun r hr => by
    rw [hr]; exact Ev.step (fun k => by rw [spec_Later.j0]) (by simpa using ev_some)
  refine Ev.bind (spec_pat_ev w f t ns al h1 h2) ?_
  by_cases c0 : patB w f t ns al = true
  · obtain ⟨p1, p2, _⟩ := patB_len c0
    simp only [if_pos c0, spec_in, Option.bind_some, decide_eq_true_eq]
    by_cases c1 : -3650 ≤ n ∧ n ≤ 3650
    · simp only [if_pos c1, w64 (x := f + n) (by omega) (by omega), w64 (x := t + n) (by omega) (by omega)]
      by_cases c2 : f + n < 0
      · simp only [if_pos c2]
        exact hno _ (by rw [if_neg (fun h => by have := h.2.2.1; omega)])
      · simp only [if_neg c2]
        by_cases c3 : t + n > 3650
        · simp only [decide_eq_true c3]
          exact hno _ (by rw [if_neg (fun h => by have := h.2.2.2; omega)])
        · simp only [decide_eq_false c3]
          rw [if_pos (show latOk w f t ns al n from ⟨c0, c1, by omega, by omega⟩)]
          refine Ev.step (fun k => by rw [spec_Later.j0]) ?_
          simp only [Bool.false_eq_true, if_false, w64 (x := f + n) (by omega) (by omega), w64 (x := t + n) (by omega) (by omega)]
          have hw := (week_all p1.1 p1.2 (show 0 ≤ n % 7 by omega) (show n % 7 < 7 by omega)).1
          rw [hw]
          exact spec_lat_l0 c0 c1 (f + n) (t + n) _ 0 rfl (by omega)
    · simp only [if_neg c1]
      exact hno _ (by rw [if_neg (fun h => c1 h.2.1)])
  · simp only [if_neg c0]
    exact hno _ (by rw [if_neg (fun h => c0 h.1)])
theorem impl_week_ev (w d : Int) (h0 : 0 ≤ d) : impl_inWeek.f w d = some (wk w d) := by
  have h7 : Int.tmod d 7 = d % 7 := Int.tmod_eq_emod_of_nonneg h0
  unfold impl_inWeek.f wk
  rw [if_pos (by rw [h7]; omega)]
theorem impl_days_loop (w f t : Int) (h0 : 0 ≤ f) (b : Bool) (xs ns al : List Int) (hn : xs.length ≤ 2000000) : ∀ (rest : List Int) (j : Nat), xs.drop j = rest → j ≤ xs.length →
    Ev (fun k => impl_daysOk.l0 k xs b xs (xs.length : Int) (j : Int) w f t ns al) (daysB w f t b xs j rest) := by
  intro rest
  induction rest with
  | nil =>
    intro j h hl
    have := drop_nil h
    refine Ev.step (fun k => by rw [impl_daysOk.l0]) ?_
    simp only [if_neg (show ¬ (j : Int) < (xs.length : Int) by omega), daysB]
    exact ev_some
  | cons d rest ih =>
    intro j h hl
    obtain ⟨h1, h2, h3⟩ := drop_cons h
    refine Ev.step (fun k => by rw [impl_daysOk.l0]) ?_
    simp only [if_pos (show (j : Int) < (xs.length : Int) by omega), if_pos (show 0 ≤ (j : Int) by omega), rdI_at, h2, impl_in, Option.bind_some, decide_eq_true_eq]
    by_cases c1 : f ≤ d ∧ d ≤ t
    · have hd : 0 ≤ d := by omega
      simp only [if_pos c1, impl_week_ev w d hd, Option.bind_some, nat_w (show j ≤ 9223372036854775806 by omega)]
      have hi := ih (j + 1) h3 (by omega)
      by_cases c2 : wk w d = b
      · have c3 : (wk w d != b) = false := by simpa using c2
        have e2 : (wk w d == b) = true := by simpa using c2
        simp only [c3, Bool.false_eq_true, if_false]
        by_cases c0 : j = 0
        · subst c0
          simp only [if_neg (show ¬ ((0 : Nat) : Int) > 0 by omega)]
          simpa [daysB, dayB, c1, e2, prevOk] using hi
        · simp only [if_pos (show (j : Int) > 0 by omega), show (j : Int) - 1 = ((j - 1 : Nat) : Int) by omega, w64 (x := ((j - 1 : Nat) : Int)) (by omega) (by omega), if_pos (show 0 ≤ ((j - 1 : Nat) : Int) by omega), if_pos (show ((j - 1 : Nat) : Int) < (xs.length : Int) by omega), rdI_at]
          by_cases c4 : xs.getD (j - 1) 0 ≥ d
          · simp only [if_pos c4]
            have e : prevOk xs j = false := by
              unfold prevOk; rw [h2]
              simp only [Bool.or_eq_false_iff, beq_eq_false_iff_ne, decide_eq_false_iff_not]
              exact ⟨c0, by omega⟩
            simp only [daysB, dayB, e, Bool.and_false, Bool.false_and]
            exact ev_some
          · simp only [if_neg c4]
            have e : prevOk xs j = true := by
              unfold prevOk; rw [h2]
              simp only [Bool.or_eq_true, decide_eq_true_eq]
              exact Or.inr (by omega)
            simpa [daysB, dayB, c1, e, e2] using hi
      · have c3 : (wk w d != b) = true := by simpa using c2
        simp only [c3, if_true]
        have e : (wk w d == b) = false := by simpa using c2
        simp only [daysB, dayB, e, Bool.and_false, Bool.false_and]
        exact ev_some
    · simp only [if_neg c1, daysB, dayB, decide_eq_false c1, Bool.false_and]
      exact ev_some
theorem impl_days_ev (w f t : Int) (h0 : 0 ≤ f) (b : Bool) (xs ns al : List Int) (hn : xs.length ≤ 2000000) : Ev (fun k => impl_daysOk.f k w f t ns al xs b) (decide (xs.length ≤ 20) && daysB w f t b xs 0 xs) := by
  unfold impl_daysOk.f
  by_cases c : (xs.length : Int) > 20
  · simp only [if_pos c]
    rw [decide_eq_false (show ¬ xs.length ≤ 20 by omega), Bool.false_and]
    exact ev_some
  · simp only [if_neg c]
    rw [decide_eq_true (show xs.length ≤ 20 by omega), Bool.true_and]
    exact impl_days_loop w f t h0 b xs ns al hn xs 0 rfl (by omega)
theorem impl_pat_ev (w f t : Int) (ns al : List Int) (hn : ns.length ≤ 2000000) (ha : al.length ≤ 2000000) : Ev (fun k => impl_PatternOk.f k w f t ns al) (patB w f t ns al) := by
  unfold impl_PatternOk.f patB
  simp only [impl_in, Option.bind_some, decide_eq_true_eq]
  have hno : ∀ r, r = false → Ev (fun k => impl_PatternOk.j0 k true w f t ns al) r := fun r hr => by
    rw [hr]
    exact Ev.step (fun k => by rw [impl_PatternOk.j0]) (by simpa using ev_some)
  by_cases c1 : 0 ≤ w ∧ w ≤ 127
  · simp only [if_pos c1]
    by_cases c2 : f < 0
    · simp only [if_pos c2]
      exact hno _ (by rw [decide_eq_false (show ¬ (0 ≤ f ∧ f ≤ t ∧ t ≤ 3650) by omega)]; simp)
    · by_cases c3 : f > t
      · simp only [if_neg c2, if_pos c3]
        exact hno _ (by rw [decide_eq_false (show ¬ (0 ≤ f ∧ f ≤ t ∧ t ≤ 3650) by omega)]; simp)
      · by_cases c4 : t > 3650
        · simp only [if_neg c2, if_neg c3, decide_eq_true c4]
          exact hno _ (by rw [decide_eq_false (show ¬ (0 ≤ f ∧ f ≤ t ∧ t ≤ 3650) by omega)]; simp)
        · simp only [if_neg c2, if_neg c3, decide_eq_false c4]
          rw [decide_eq_true c1, decide_eq_true (show 0 ≤ f ∧ f ≤ t ∧ t ≤ 3650 by omega)]
          simp only [Bool.true_and]
          refine Ev.step (fun k => by rw [impl_PatternOk.j0]) ?_
          simp only [Bool.false_eq_true, if_false]
          refine Ev.bind (impl_days_ev w f t (by omega) true ns ns al hn) ?_
          cases hd : (decide (ns.length ≤ 20) && daysB w f t true ns 0 ns) with
          | false => simpa using ev_some
          | true =>
            simp only [if_true, Bool.true_and]
            exact Ev.bind (impl_days_ev w f t (by omega) false al ns al ha) ev_some
  · simp only [if_neg c1, decide_eq_false c1, Bool.false_and]
    exact hno _ rfl
theorem shifted_ev (l : List Int) (hl : l.length ≤ 2000000) (n : Int) (hb : ∀ x ∈ l, -100000 ≤ x + n ∧ x + n ≤ 100000) : Ev (fun k => impl_shifted.f k l n) (moved n l) := by
  unfold impl_shifted.f moved
  simp only [if_pos (show 0 ≤ (l.length : Int) by omega), if_pos (show ((l.length : Int)).toNat ≤ 35184372088832 by omega)]
  have hw : ∀ j, j < l.length → wrap64 (l.getD j 0 + n) = l.getD j 0 + n := fun j hj => by
    have hm : l.getD j 0 ∈ l := by rw [List.getD_eq_getElem?_getD, List.getElem?_eq_getElem hj]; exact List.getElem_mem _
    have := hb _ hm
    exact w64 (by omega) (by omega)
  have h := copy_loop (fun b : Int => b + n) 0 l (fun k acc i => impl_shifted.l0 k n acc l (l.length : Int) i) (by omega) (fun k acc j => by
    by_cases c : j < l.length
    · simp only [impl_shifted.l0, rdI_at, hw j c, Int.toNat_natCast, if_pos (show 0 ≤ (j : Int) by omega), Int.ofNat_lt, if_pos c]
    · simp only [impl_shifted.l0, Int.ofNat_lt, if_neg c]) l.length 0 (List.replicate l.length 0) (by omega) (by omega) (by simp) (by simp)
  simpa using h
theorem impl_lat_l0 {w n : Int} (hn : -3650 ≤ n ∧ n ≤ 3650) (f t : Int) (ns al : List Int) (F T : Int) (X Y : List Int) (d : Nat) : ∀ j : Nat, 7 - j = d → j ≤ 7 → Ev (fun k => impl_Later.l0 k n (j : Int) w f t ns al ((List.range j).foldl (stI w (n % 7)) 0) F T X Y) (weekI w (n % 7), F, T, X, Y) := by
  induction d with
  | zero =>
    intro j h0 h1
    obtain rfl : j = 7 := by omega
    refine Ev.step (fun k => by rw [impl_Later.l0]) ?_
    simp only [if_neg (show ¬ ((7 : Nat) : Int) < 7 by omega)]
    exact ev_some
  | succ d ih =>
    intro j h0 h1
    have hi := ih (j + 1) (by omega) (by omega)
    rw [fold_next] at hi
    have e0 := Int.tmod_eq_emod (a := (j : Int) + n) (b := 7)
    have e1 : Int.tmod ((j : Int) + n) 7 = ((j : Int) + n) % 7 ∨ Int.tmod ((j : Int) + n) 7 = ((j : Int) + n) % 7 - 7 := by
      rw [e0]; split <;> simp
    have e2 : Int.tmod (wrap64 (Int.tmod (wrap64 ((j : Int) + n)) 7 + 7)) 7 = ((j : Int) + n % 7) % 7 := by
      rw [w64 (x := (j : Int) + n) (by omega) (by omega), w64 (x := Int.tmod ((j : Int) + n) 7 + 7) (by omega) (by omega), Int.tmod_eq_emod_of_nonneg (by omega)]
      omega
    refine Ev.step (fun k => by rw [impl_Later.l0]) ?_
    simp only [if_pos (show (j : Int) < 7 by omega), if_pos (show 0 ≤ (j : Int) by omega), nat_w (show j ≤ 9223372036854775806 by omega), e2, if_pos (show 0 ≤ ((j : Int) + n % 7) % 7 by omega)]
    by_cases c : Go.bits .and .i64 (shr .i64 w (j : Int)) 1 = 1
    · simp only [stI, if_pos c] at hi
      simp only [if_pos c]
      exact hi
    · simp only [stI, if_neg c] at hi
      simp only [if_neg c]
      exact hi
theorem impl_later_ev (w f t : Int) (ns al : List Int) (n : Int) (h1 : ns.length ≤ 2000000) (h2 : al.length ≤ 2000000) : Ev (fun k => impl_Later.f k w f t ns al n) (latR w f t ns al n) := by
  unfold impl_Later.f latR
  have hno : ∀ r, r = (0, 0, 0, [], []) → Ev (fun k => impl_Later.j0 k n true w f t ns al) r := fun r hr => by
    rw [hr]; exact Ev.step (fun k => by rw [impl_Later.j0]) (by simpa using ev_some)
  refine Ev.bind (impl_pat_ev w f t ns al h1 h2) ?_
  by_cases c0 : patB w f t ns al = true
  · obtain ⟨p1, p2, p3, p4, _⟩ := patB_len c0
    simp only [if_pos c0, impl_in, Option.bind_some, decide_eq_true_eq]
    by_cases c1 : -3650 ≤ n ∧ n ≤ 3650
    · simp only [if_pos c1, w64 (x := f + n) (by omega) (by omega), w64 (x := t + n) (by omega) (by omega)]
      by_cases c2 : f + n < 0
      · simp only [if_pos c2]
        exact hno _ (by rw [if_neg (fun h => by have := h.2.2.1; omega)])
      · simp only [if_neg c2]
        by_cases c3 : t + n > 3650
        · simp only [decide_eq_true c3]
          exact hno _ (by rw [if_neg (fun h => by have := h.2.2.2; omega)])
        · simp only [decide_eq_false c3]
          rw [if_pos (show latOk w f t ns al n from ⟨c0, c1, by omega, by omega⟩)]
          refine Ev.step (fun k => by rw [impl_Later.j0]) ?_
          simp only [Bool.false_eq_true, if_false, w64 (x := f + n) (by omega) (by omega), w64 (x := t + n) (by omega) (by omega)]
          refine Ev.bind (shifted_ev ns h1 n (fun x hx => by have := p3 x hx; omega)) (Ev.bind (shifted_ev al h2 n (fun x hx => by have := p4 x hx; omega)) ?_)
          exact impl_lat_l0 c1 f t ns al (f + n) (t + n) _ _ _ 0 rfl (by omega)
    · simp only [if_neg c1]
      exact hno _ (by rw [if_neg (fun h => c1 h.2.1)])
  · simp only [if_neg c0]
    exact hno _ (by rw [if_neg (fun h => c0 h.1)])
def markI (s : Int) (_ : Int) : Int := s
theorem markIntS_ev (xs : List Int) (hn : xs.length ≤ 2000000) (s : Nat) (hs : s ≤ 20000000) : Ev (fun k => laws_markIntS.f k xs (s : Int)) (((s + 1 * xs.length : Nat) : Int), marked 1 markI s xs) := by
  unfold laws_markIntS.f
  have h := mark_loop 1 (by omega) markI 0 xs (fun k acc s i => laws_markIntS.l0 k acc s i) hn s hs
    (fun k acc s j h1 h2 h3 => by
      simp only [laws_markIntS.l0, h1, if_pos (show (j : Int) < (xs.length : Int) by omega), if_pos (show 0 ≤ (j : Int) by omega), Int.toNat_natCast, markI]
      rw [w64 (x := (s : Int) + 1) (by omega) (by omega)]; rfl)
    (fun k acc s h1 => by simp [laws_markIntS.l0, h1]) xs.length 0 xs (by omega) (by omega) rfl (by simp) rfl
  simpa using h
theorem heldIntS_ev (xs : List Int) (hn : xs.length ≤ 2000000) (s : Nat) (hs : s ≤ 20000000) : Ev (fun k => laws_heldIntS.f k (marked 1 markI s xs) (s : Int)) ((s + 1 * xs.length : Nat) : Int) := by
  unfold laws_heldIntS.f
  have hl := marked_length 1 markI s xs
  have h := held_loop 1 (by omega) xs.length (fun k s' i => laws_heldIntS.l0 k (marked 1 markI s xs) s' i) hn s hs
    (fun k j hj => by
      have hm := marked_at 1 markI s xs j 0 hj
      simp only [laws_heldIntS.l0, hl, if_pos (show (j : Int) < (xs.length : Int) by omega), if_pos (show 0 ≤ (j : Int) by omega), rd, Int.toNat_natCast, List.getD_eq_getElem?_getD, hm, Option.getD_some, markI]
      rw [if_pos (by omega), w64 (x := ((s + 1 * j : Nat) : Int) + 1) (by omega) (by omega)]; rfl)
    (fun k s' => by simp [laws_heldIntS.l0, hl]) xs.length 0 (by omega) (by omega)
  simpa using h
theorem markPat_ev (w f t : Int) (ns al : List Int) (hn : ns.length ≤ 2000000) (ha : al.length ≤ 2000000) : Ev (fun k => laws_markPattern.f k w f t ns al 1) (((1 + 1 * ns.length + 1 * al.length : Nat) : Int), marked 1 markI ((1 : Nat) : Int) ns, marked 1 markI ((1 + 1 * ns.length : Nat) : Int) al) := by
  unfold laws_markPattern.f
  exact Ev.bind (markIntS_ev ns hn 1 (by omega)) (Ev.bind (markIntS_ev al ha (1 + 1 * ns.length) (by omega)) ev_some)
theorem heldPat_ev (w f t : Int) (ns al : List Int) (hn : ns.length ≤ 2000000) (ha : al.length ≤ 2000000) : Ev (fun k => laws_heldPattern.f k w f t (marked 1 markI ((1 : Nat) : Int) ns) (marked 1 markI ((1 + 1 * ns.length : Nat) : Int) al) 1) ((1 + 1 * ns.length + 1 * al.length : Nat) : Int) := by
  unfold laws_heldPattern.f
  refine Ev.bind (heldIntS_ev ns hn 1 (by omega)) ?_
  simp only [if_neg (show ¬ ((1 + 1 * ns.length : Nat) : Int) < 0 by omega)]
  refine Ev.bind (heldIntS_ev al ha (1 + 1 * ns.length) (by omega)) ?_
  simp only [if_neg (show ¬ ((1 + 1 * ns.length + 1 * al.length : Nat) : Int) < 0 by omega)]
  exact ev_some
theorem FnExactLater : laws_FnExactLater.Pure := by
  intro w f t ns al n _ hf ht h3 h4 _
  refine Ev.rounds ?_
  unfold laws_FnExactLater.f
  have hm : maxLen ≤ 9223372036854775807 := by decide
  obtain ⟨r, hr, hc⟩ := sz_pat w f t ns al (by omega) (by omega)
  simp only [hr, Option.bind_some]
  by_cases c : r < 0
  · simp only [if_pos c]; exact ev_some
  · simp only [if_neg c]
    have hn : ns.length ≤ 2000000 := by omega
    have ha : al.length ≤ 2000000 := by omega
    have hl := latR_len w f t ns al n
    have es := spec_later_ev w f t ns al n hn ha (wf_i64 hf) (wf_i64 ht)
    have ei := impl_later_ev w f t ns al n hn ha
    generalize latR w f t ns al n = R at hl es ei
    obtain ⟨W, F, T, X, Y⟩ := R
    simp only at hl
    have hX : X.length ≤ 2000000 := by omega
    have hY : Y.length ≤ 2000000 := by omega
    refine Ev.bind (toPat_ev w f t ns al hn ha) (Ev.bind es (Ev.bind (toPat_ev w f t ns al hn ha) (Ev.bind ei (Ev.bind (eqPat_ev W F T X Y hX hY) ?_))))
    simp only [if_true]
    refine Ev.bind (toPat_ev w f t ns al hn ha) (Ev.bind (eqPat_ev w f t ns al hn ha) ?_)
    simp only [if_true]
    refine Ev.bind (markPat_ev w f t ns al hn ha) ?_
    simp only [if_neg (show ¬ ((1 + 1 * ns.length + 1 * al.length : Nat) : Int) < 0 by omega)]
    refine Ev.bind (eqPat_ev W F T X Y hX hY) ?_
    simp only [if_true]
    refine Ev.bind (markPat_ev W F T X Y hX hY) (Ev.bind (heldPat_ev W F T X Y hX hY) ?_)
    simp only [if_neg (show ¬ ((1 + 1 * X.length + 1 * Y.length : Nat) : Int) < 0 by omega), if_true]
    refine Ev.bind (toPat_ev w f t ns al hn ha) (Ev.bind ei (Ev.bind (eqPat_ev W F T X Y hX hY) ?_))
    simp only [if_true]
    refine Ev.bind (heldPat_ev W F T X Y hX hY) ?_
    simp only [if_neg (show ¬ ((1 + 1 * X.length + 1 * Y.length : Nat) : Int) < 0 by omega), if_true]
    exact ev_some

end Go.Proofs.Ytgjhlkjfdlkndaa.Pure
