/- The program's TimeText prints what the reference's prints, for every whole number. -/
import Derived.Test.YtgjhlkjfdlkndaaDoorPFnExactTimeTextx1
namespace Go.Proofs.YtgjhlkjfdlkndaaDoor.Pure
open Go.RowKit Go.Proofs.YtgjhlkjfdlkndaaDoor.PFnExactTimeText Go.Proofs.YtgjhlkjfdlkndaaDoorW.PrintWords Go.Proofs.YtgjhlkjfdlkndaaDoorW.PrintLast Go.Proofs.YtgjhlkjfdlkndaaDoorW.PrintMore
set_option linter.unusedVariables false
set_option linter.unusedSimpArgs false
theorem w64 {x : Int} (h0 : -9223372036854775808 ≤ x) (h1 : x ≤ 9223372036854775807) : wrap64 x = x := by unfold wrap64; omega
theorem ev_k {α : Type} {g : Nat → Option α} {r : α} (h : ∀ k, g k = some r) : Ev g r := ⟨0, fun k _ => h k⟩
theorem ev_some {α : Type} {r : α} : Ev (fun _ => some r) r := Ev.now r
theorem wf_i64 {x : Int} (h : (Lit.int .i64 x).wf = true) : -9223372036854775808 ≤ x ∧ x ≤ 9223372036854775807 := by
  simp only [Lit.wf, Bool.and_eq_true, decide_eq_true_eq] at h
  have h1 : IntKind.min .i64 = -9223372036854775808 := by decide
  have h2 : IntKind.max .i64 = 9223372036854775807 := by decide
  omega
theorem wf_u8 {x : Int} (h : (Lit.int .u8 x).wf = true) : 0 ≤ x ∧ x ≤ 255 := by
  simp only [Lit.wf, Bool.and_eq_true, decide_eq_true_eq] at h
  have h1 : IntKind.min .u8 = 0 := by decide
  have h2 : IntKind.max .u8 = 255 := by decide
  omega
/-! Loops over lists, whatever the elements. -/
theorem nat_w {j : Nat} (h : j ≤ 9223372036854775806) : wrap64 ((j : Int) + 1) = ((j + 1 : Nat) : Int) := by rw [w64 (by omega) (by omega)]; omega
theorem set_take {α : Type} {acc ys : List α} {j : Nat} (hl : acc.length = ys.length) (ht : acc.take j = ys.take j) (hj : j < ys.length) {v : α} (hv : ys[j]? = some v) : (acc.set j v).take (j + 1) = ys.take (j + 1) := by
  apply List.ext_getElem?
  intro i
  by_cases hi : i < j + 1
  · rw [List.getElem?_take_of_lt hi, List.getElem?_take_of_lt hi]
    by_cases e : i = j
    · subst e
      rw [List.getElem?_set_self (by omega), hv]
    · rw [List.getElem?_set_ne (by omega)]
      have h1 := congrArg (fun l => l[i]?) ht
      simp only [List.getElem?_take_of_lt (show i < j by omega)] at h1
      exact h1
  · rw [List.getElem?_eq_none (by simp; omega), List.getElem?_eq_none (by simp; omega)]
theorem getD_some {α : Type} {xs : List α} {j : Nat} (h : j < xs.length) (d : α) : xs[j]? = some (xs.getD j d) := by
  rw [List.getD_eq_getElem?_getD, List.getElem?_eq_getElem h]; rfl
/-- A loop that writes g of each element of xs into a row of the same length. -/
theorem copy_loop {α β : Type} (g : β → α) (d : β) (xs : List β) (L : Nat → List α → Int → Option (List α)) (hn : xs.length ≤ 9223372036854775806)
    (hs : ∀ k acc (j : Nat), L (k + 1) acc (j : Int) = if j < xs.length then (if j < acc.length then L k (acc.set j (g (xs.getD j d))) (wrap64 ((j : Int) + 1)) else none) else some acc)
    (m : Nat) : ∀ (j : Nat) (acc : List α), xs.length - j = m → j ≤ xs.length → acc.length = xs.length → acc.take j = (xs.map g).take j → Ev (fun k => L k acc (j : Int)) (xs.map g) := by
  induction m with
  | zero =>
    intro j acc h0 h1 h2 h3
    refine Ev.step (fun k => hs k acc j) ?_
    simp only [if_neg (show ¬ j < xs.length by omega)]
    have e : acc = xs.map g := by
      have h4 : acc.take j = acc := List.take_of_length_le (by omega)
      have h5 : (xs.map g).take j = xs.map g := List.take_of_length_le (by simp; omega)
      rw [← h4, h3, h5]
    rw [e]
    exact ev_some
  | succ m ih =>
    intro j acc h0 h1 h2 h3
    refine Ev.step (fun k => hs k acc j) ?_
    simp only [if_pos (show j < xs.length by omega), if_pos (show j < acc.length by omega)]
    rw [nat_w (by omega)]
    refine ih (j + 1) _ (by omega) (by omega) (by simpa using h2) ?_
    refine set_take (by simpa using h2) h3 (by simp; omega) ?_
    rw [List.getElem?_map, getD_some (show j < xs.length by omega) d]
    rfl
/-- A loop that asks each index, and goes on where the answer is yes. -/
theorem all_loop (n : Nat) (L : Nat → Int → Option Bool) (hn : n ≤ 9223372036854775806) (hs : ∀ k (j : Nat), j < n → L (k + 1) (j : Int) = L k (wrap64 ((j : Int) + 1))) (he : ∀ k, L (k + 1) (n : Int) = some true)
    (m : Nat) : ∀ j : Nat, n - j = m → j ≤ n → Ev (fun k => L k (j : Int)) true := by
  induction m with
  | zero =>
    intro j h0 h1
    obtain rfl : j = n := by omega
    exact Ev.step (fun k => he k) ev_some
  | succ m ih =>
    intro j h0 h1
    refine Ev.step (fun k => hs k j (by omega)) ?_
    rw [nat_w (by omega)]
    exact ih (j + 1) (by omega) (by omega)
/-- The elements one behind the other, each turned by f with a number that goes on by c. -/
def marked {α : Type} (c : Int) (f : Int → α → α) : Int → List α → List α
  | _, [] => []
  | s, x :: xs => f s x :: marked c f (s + c) xs
theorem marked_length {α : Type} (c : Int) (f : Int → α → α) : ∀ (s : Int) (xs : List α), (marked c f s xs).length = xs.length
  | _, [] => rfl
  | s, x :: xs => by simp [marked, marked_length c f (s + c) xs]
theorem marked_at {α : Type} (c : Int) (f : Int → α → α) : ∀ (s : Int) (xs : List α) (j : Nat) (d : α), j < xs.length → (marked c f s xs)[j]? = some (f (s + c * j) (xs.getD j d))
  | _, [], j, d, h => by simp at h
  | s, x :: xs, 0, d, _ => by simp [marked]
  | s, x :: xs, j + 1, d, h => by
    have := marked_at c f (s + c) xs j d (by simpa using h)
    simp only [marked, List.getElem?_cons_succ, List.getD_cons_succ]
    rw [this]
    congr 2
    rw [Int.natCast_succ, Int.mul_add]; omega
/-- A loop that marks a row. -/
theorem mark_loop {α : Type} (c : Nat) (hc : c ≤ 8) (f : Int → α → α) (d : α) (xs : List α) (L : Nat → List α → Int → Int → Option (Int × List α)) (hn : xs.length ≤ 2000000) (s0 : Nat) (hs0 : s0 ≤ 20000000)
    (hs : ∀ k acc (s : Nat) (j : Nat), acc.length = xs.length → s ≤ 40000000 → j < xs.length → L (k + 1) acc (s : Int) (j : Int) = L k (acc.set j (f (s : Int) (acc.getD j d))) ((s + c : Nat) : Int) (wrap64 ((j : Int) + 1)))
    (he : ∀ k acc (s : Int), acc.length = xs.length → L (k + 1) acc s (xs.length : Int) = some (s, acc))
    (m : Nat) : ∀ (j : Nat) (acc : List α), xs.length - j = m → j ≤ xs.length → acc.length = xs.length → acc.take j = (marked c f s0 xs).take j → acc.drop j = xs.drop j → Ev (fun k => L k acc ((s0 + c * j : Nat) : Int) (j : Int)) (((s0 + c * xs.length : Nat) : Int), marked c f s0 xs) := by
  induction m with
  | zero =>
    intro j acc h0 h1 h2 h3 _
    obtain rfl : j = xs.length := by omega
    refine Ev.step (fun k => he k acc _ h2) ?_
    have e : acc = marked c f s0 xs := by
      have h4 : acc.take xs.length = acc := List.take_of_length_le (by omega)
      have h5 : (marked c f s0 xs).take xs.length = marked c f s0 xs := List.take_of_length_le (by rw [marked_length]; omega)
      rw [← h4, h3, h5]
    rw [e]
    exact ev_some
  | succ m ih =>
    intro j acc h0 h1 h2 h3 h4
    have hb : c * j ≤ 8 * 2000000 := Nat.mul_le_mul hc (by omega)
    refine Ev.step (fun k => hs k acc _ j h2 (by omega) (by omega)) ?_
    rw [nat_w (by omega), show s0 + c * j + c = s0 + c * (j + 1) by rw [Nat.mul_add]; omega]
    have hg : acc.getD j d = xs.getD j d := by
      have h5 := congrArg (fun l => l[0]?) h4
      simp only [List.getElem?_drop, Nat.add_zero] at h5
      rw [List.getD_eq_getElem?_getD, List.getD_eq_getElem?_getD, h5]
    refine ih (j + 1) _ (by omega) (by omega) (by simpa using h2) ?_ ?_
    · refine set_take (by rw [marked_length]; exact h2) h3 (by rw [marked_length]; omega) ?_
      rw [marked_at c f s0 xs j d (by omega), hg]
      simp
    · rw [List.drop_set_of_lt (by omega), ← List.drop_drop, h4, List.drop_drop]
/-- A loop that looks whether a row is marked so. -/
theorem held_loop (c : Nat) (hc : c ≤ 8) (n : Nat) (L : Nat → Int → Int → Option Int) (hn : n ≤ 2000000) (s0 : Nat) (hs0 : s0 ≤ 20000000)
    (hs : ∀ k (j : Nat), j < n → L (k + 1) ((s0 + c * j : Nat) : Int) (j : Int) = L k ((s0 + c * j + c : Nat) : Int) (wrap64 ((j : Int) + 1)))
    (he : ∀ k (s : Int), L (k + 1) s (n : Int) = some s)
    (m : Nat) : ∀ j : Nat, n - j = m → j ≤ n → Ev (fun k => L k ((s0 + c * j : Nat) : Int) (j : Int)) (((s0 + c * n : Nat) : Int)) := by
  induction m with
  | zero =>
    intro j h0 h1
    obtain rfl : j = n := by omega
    exact Ev.step (fun k => he k _) ev_some
  | succ m ih =>
    intro j h0 h1
    refine Ev.step (fun k => hs k j (by omega)) ?_
    rw [nat_w (by omega), show s0 + c * j + c = s0 + c * (j + 1) by rw [Nat.mul_add]; omega]
    exact ih (j + 1) (by omega) (by omega)
theorem impl_in (x lo hi : Int) : impl_between.f x lo hi = some (decide (lo ≤ x ∧ x ≤ hi)) := by
  unfold impl_between.f
  by_cases h : x ≥ lo
  · have h' : lo ≤ x := h
    simp [h, h']
  · have h' : ¬ lo ≤ x := h
    simp [h, h']
/-! Times as texts. -/
def B (l : List UInt8) : ByteArray := ⟨l.toArray⟩
theorem B_app (a b : List UInt8) : B a ++ B b = B (a ++ b) := by
  apply ByteArray.ext
  rw [ByteArray.data_append]
  simp [B]
theorem B_size (l : List UInt8) : (B l).size = l.length := by
  show (l.toArray).size = l.length
  simp
def twoL (n : Nat) : List UInt8 := if n < 10 then 48 :: Lib.decDigits n else Lib.decDigits n
def timeL (m : Int) : List UInt8 := if 0 ≤ m ∧ m ≤ 100000 then twoL (m.toNat / 60) ++ 58 :: twoL (m.toNat % 60) else []
theorem dec_small {n : Nat} (h : n < 10) : Lib.decDigits n = [UInt8.ofNat (48 + n)] := by rw [Lib.decDigits, dif_pos h]
theorem dec_big {n : Nat} (h : ¬ n < 10) : Lib.decDigits n = Lib.decDigits (n / 10) ++ [UInt8.ofNat (48 + n % 10)] := by rw [Lib.decDigits, dif_neg h]
theorem dec_len : ∀ (d n : Nat), n < 10 ^ (d + 1) → (Lib.decDigits n).length ≤ d + 1
  | 0, n, h => by rw [dec_small (by simpa using h)]; simp
  | d + 1, n, h => by
    by_cases c : n < 10
    · rw [dec_small c]; simp
    · rw [dec_big c, List.length_append]
      have := dec_len d (n / 10) (by rw [Nat.pow_succ] at h; omega)
      simp only [List.length_cons, List.length_nil]
      omega
theorem itoa_T {n : Int} (h0 : 0 ≤ n) (h1 : n ≤ 1000000) : itoaT n = some (B (Lib.decDigits n.toNat)) := by
  unfold itoaT Lib.itoa B
  rw [if_pos ⟨by omega, by omega⟩, if_neg (by omega)]
theorem dec_le {n : Nat} (h : n ≤ 1000000) : (Lib.decDigits n).length ≤ 7 := dec_len 6 n (by omega)
theorem two_ev {n : Int} (h0 : 0 ≤ n) (h1 : n ≤ 1000000) : impl_twoDigits.f n = some (B (twoL n.toNat)) := by
  have hl := dec_le (n := n.toNat) (by omega)
  unfold impl_twoDigits.f twoL
  have hi : strconv_Itoa_18.f n = some (B (Lib.decDigits n.toNat)) := itoa_T h0 h1
  by_cases c : n < 10
  · rw [if_pos c, if_pos (show n.toNat < 10 by omega), hi]
    simp only [Option.bind_some, B_size]
    rw [if_pos (by omega)]
    exact congrArg some (B_app [48] _)
  · rw [if_neg c, if_neg (show ¬ n.toNat < 10 by omega), hi]
    rfl
theorem two_le {n : Nat} (h : n ≤ 1000000) : (twoL n).length ≤ 8 := by
  have := dec_le h
  unfold twoL
  split
  · simp only [List.length_cons]; omega
  · omega
theorem minute_T (m : Int) : impl_isMinute.f m = some (decide (0 ≤ m ∧ m ≤ 100000)) := by
  unfold impl_isMinute.f impl_between.f
  by_cases c : m ≥ 0
  · rw [if_pos c]
    simp only [Option.bind_some]
    congr 1
    exact decide_eq_decide.mpr (by omega)
  · rw [if_neg c, decide_eq_false (show ¬ (0 ≤ m ∧ m ≤ 100000) by omega)]
    rfl
theorem div60 {m : Int} (h : 0 ≤ m ∧ m ≤ 100000) : wrap64 (Int.tdiv m 60) = ((m.toNat / 60 : Nat) : Int) ∧ Int.tmod m 60 = ((m.toNat % 60 : Nat) : Int) := by
  have e1 : Int.tdiv m 60 = m / 60 := Int.tdiv_eq_ediv_of_nonneg h.1
  have e2 : Int.tmod m 60 = m % 60 := Int.tmod_eq_emod_of_nonneg h.1
  rw [e1, e2, w64 (by omega) (by omega)]
  omega
theorem time_impl (m : Int) : impl_TimeText.f m = some (B (timeL m)) := by
  unfold impl_TimeText.f timeL
  rw [minute_T]
  simp only [Option.bind_some, decide_eq_true_eq]
  by_cases c : 0 ≤ m ∧ m ≤ 100000
  · obtain ⟨e1, e2⟩ := div60 c
    have l1 := two_le (n := m.toNat / 60) (by omega)
    have l2 := two_le (n := m.toNat % 60) (by omega)
    rw [if_pos c, if_pos c, e1, e2, two_ev (by omega) (by omega), two_ev (by omega) (by omega)]
    simp only [Option.bind_some, Int.toNat_natCast]
    have ea : B (twoL (m.toNat / 60)) ++ (⟨#[58]⟩ : ByteArray) = B (twoL (m.toNat / 60) ++ [58]) := B_app _ [58]
    rw [ea, B_size, B_size, B_size, if_pos (by omega), if_pos (by rw [List.length_append]; simp only [List.length_cons, List.length_nil]; omega), B_app, List.append_assoc]
    rfl
  · rw [if_neg c, if_neg c]; rfl
theorem num_loop : ∀ (n x : Nat) (acc : List UInt8), x ≤ n → acc.length + x ≤ 1000000 →
    Ev (fun k => spec_l01Num.l0 k (x : Int) (B acc) false) (B ((if x = 0 then [] else Lib.decDigits x) ++ acc)) := by
  intro n
  induction n with
  | zero =>
    intro x acc h hl
    obtain rfl : x = 0 := by omega
    refine Ev.step (fun k => by rw [spec_l01Num.l0]) ?_
    simp only [if_pos (show ((0 : Nat) : Int) = 0 from rfl), if_true, Bool.false_eq_true, if_false, List.nil_append]
    exact ev_some
  | succ n ih =>
    intro x acc h hl
    by_cases c : x = 0
    · subst c
      refine Ev.step (fun k => by rw [spec_l01Num.l0]) ?_
      simp only [if_pos (show ((0 : Nat) : Int) = 0 from rfl), if_true, Bool.false_eq_true, if_false, List.nil_append]
      exact ev_some
    · have e1 : Int.tmod (x : Int) 10 = ((x % 10 : Nat) : Int) := by rw [Int.tmod_eq_emod_of_nonneg (by omega)]; omega
      have e2 : Int.tdiv (x : Int) 10 = ((x / 10 : Nat) : Int) := by rw [Int.tdiv_eq_ediv_of_nonneg (by omega)]; omega
      have e3 : wrap64 (48 + ((x % 10 : Nat) : Int)) % 256 = ((48 + x % 10 : Nat) : Int) := by rw [w64 (by omega) (by omega)]; omega
      have e4 : strOfNums [((48 + x % 10 : Nat) : Int)] = B [UInt8.ofNat (48 + x % 10)] := by
        unfold strOfNums B
        rw [List.map_cons, Int.toNat_natCast]; rfl
      have hi := ih (x / 10) (UInt8.ofNat (48 + x % 10) :: acc) (by omega) (by simp only [List.length_cons]; omega)
      have e5 : (if x / 10 = 0 then [] else Lib.decDigits (x / 10)) ++ UInt8.ofNat (48 + x % 10) :: acc = (if x = 0 then [] else Lib.decDigits x) ++ acc := by
        rw [if_neg c]
        by_cases c2 : x < 10
        · rw [if_pos (show x / 10 = 0 by omega), dec_small c2, show x % 10 = x by omega]; rfl
        · rw [if_neg (show ¬ x / 10 = 0 by omega), dec_big c2, List.append_assoc]; rfl
      rw [e5] at hi
      have ea : B [UInt8.ofNat (48 + x % 10)] ++ B acc = B (UInt8.ofNat (48 + x % 10) :: acc) := B_app _ _
      refine Ev.step (fun k => by rw [spec_l01Num.l0]) ?_
      simp only [if_neg (show ¬ (x : Int) = 0 by omega), e1, if_neg (show ¬ ((x % 10 : Nat) : Int) < 0 by omega), e3, e4, Option.bind_some, e2, w64 (x := ((x / 10 : Nat) : Int)) (by omega) (by omega)]
      rw [B_size, B_size]
      simp only [if_pos (show [UInt8.ofNat (48 + x % 10)].length + acc.length ≤ 9223372036854775807 by simp only [List.length_cons, List.length_nil]; omega), ea]
      exact hi
theorem num_ev {x : Nat} (h : x ≤ 900000) : Ev (fun k => spec_l01Num.f k (x : Int)) (B (Lib.decDigits x)) := by
  unfold spec_l01Num.f
  by_cases c : x = 0
  · subst c
    simp only [if_pos (show ((0 : Nat) : Int) = 0 from rfl)]
    rw [dec_small (by omega)]
    exact ev_some
  · simp only [if_neg (show ¬ (x : Int) = 0 by omega), decide_eq_false (show ¬ (x : Int) < 0 by omega)]
    have := num_loop x x [] (Nat.le_refl _) (by simp only [List.length_nil]; omega)
    rw [if_neg c, List.append_nil] at this
    exact this
theorem dec_one {n : Nat} : (Lib.decDigits n).length < 2 ↔ n < 10 := by
  by_cases c : n < 10
  · rw [dec_small c]; simp [c]
  · rw [dec_big c, List.length_append]
    have : 0 < (Lib.decDigits (n / 10)).length := by
      by_cases c2 : n / 10 < 10
      · rw [dec_small c2]; simp
      · rw [dec_big c2, List.length_append]; simp only [List.length_cons, List.length_nil]; omega
    simp only [List.length_cons, List.length_nil]
    omega
theorem spec_In (x lo hi : Int) : spec_l01In.f x lo hi = some (decide (lo ≤ x ∧ x ≤ hi)) := by
  unfold spec_l01In.f
  by_cases c : lo ≤ x
  · rw [if_pos c]
    congr 1
    exact decide_eq_decide.mpr (by omega)
  · rw [if_neg c, decide_eq_false (fun h => c h.1)]
theorem time_spec (m : Int) : Ev (fun k => spec_TimeText.f k m) (B (timeL m)) := by
  unfold spec_TimeText.f timeL
  rw [spec_In]
  simp only [Option.bind_some, decide_eq_true_eq]
  by_cases c : 0 ≤ m ∧ m ≤ 100000
  · obtain ⟨e1, e2⟩ := div60 c
    have l1 := dec_le (n := m.toNat / 60) (by omega)
    have l2 := dec_le (n := m.toNat % 60) (by omega)
    have o1 := dec_one (n := m.toNat / 60)
    have o2 := dec_one (n := m.toNat % 60)
    simp only [if_pos c, e1, e2]
    refine Ev.bind (num_ev (x := m.toNat / 60) (by omega)) (Ev.bind (num_ev (x := m.toNat % 60) (by omega)) ?_)
    unfold twoL
    generalize Lib.decDigits (m.toNat / 60) = X at *
    generalize Lib.decDigits (m.toNat % 60) = Y at *
    have a1 : (⟨#[48]⟩ : ByteArray) ++ B X = B (48 :: X) := B_app [48] X
    have a2 : (⟨#[48]⟩ : ByteArray) ++ B Y = B (48 :: Y) := B_app [48] Y
    have a3 : ∀ Z, B Z ++ (⟨#[58]⟩ : ByteArray) = B (Z ++ [58]) := fun Z => B_app Z [58]
    simp only [a1, a2, a3, B_app, B_size, List.length_append, List.length_cons, List.length_nil, List.append_assoc, List.cons_append, List.nil_append]
    by_cases c1 : m.toNat / 60 < 10
    · simp only [if_pos c1, if_pos (show ((X.length : Nat) : Int) < 2 by have := o1.2 c1; omega), if_pos (show 1 + X.length ≤ 9223372036854775807 by omega)]
      by_cases c2 : m.toNat % 60 < 10
      · simp only [if_pos c2, if_pos (show ((Y.length : Nat) : Int) < 2 by have := o2.2 c2; omega), if_pos (show 1 + Y.length ≤ 9223372036854775807 by omega)]
        rw [if_pos (by omega), if_pos (by omega)]
        exact ev_some
      · simp only [if_neg c2, if_neg (show ¬ ((Y.length : Nat) : Int) < 2 by intro h; exact c2 (o2.1 (by omega)))]
        rw [if_pos (by omega), if_pos (by omega)]
        exact ev_some
    · simp only [if_neg c1, if_neg (show ¬ ((X.length : Nat) : Int) < 2 by intro h; exact c1 (o1.1 (by omega)))]
      by_cases c2 : m.toNat % 60 < 10
      · simp only [if_pos c2, if_pos (show ((Y.length : Nat) : Int) < 2 by have := o2.2 c2; omega), if_pos (show 1 + Y.length ≤ 9223372036854775807 by omega)]
        rw [if_pos (by omega), if_pos (by omega)]
        exact ev_some
      · simp only [if_neg c2, if_neg (show ¬ ((Y.length : Nat) : Int) < 2 by intro h; exact c2 (o2.1 (by omega)))]
        rw [if_pos (by omega), if_pos (by omega)]
        exact ev_some
  · simp only [if_neg c]; exact ev_some
theorem FnExactTimeText : laws_FnExactTimeText.Pure := by
  intro m _
  refine Ev.rounds ?_
  unfold laws_FnExactTimeText.f
  refine Ev.bind (time_spec m) ?_
  rw [time_impl]
  simp only [Option.bind_some, if_true]
  exact ev_some

end Go.Proofs.YtgjhlkjfdlkndaaDoor.Pure
