/- Every minute that two bytes can draw, and the last one, is printed and read again as it was; with a nought ahead it is none, and the next minute's text is another. -/
import Derived.Test.YtgjhlkjfdlkndaaDoorPFnTimesx2
namespace Go.Proofs.YtgjhlkjfdlkndaaDoor.Pure
open Go.RowKit Go.Proofs.YtgjhlkjfdlkndaaDoor.PFnTimes Go.Proofs.YtgjhlkjfdlkndaaDoorW.PrintWords Go.Proofs.YtgjhlkjfdlkndaaDoorW.PrintLast Go.Proofs.YtgjhlkjfdlkndaaDoorW.PrintMore
set_option linter.unusedVariables false
set_option linter.unusedSimpArgs false
theorem w64 {x : Int} (h0 : -9223372036854775808 ≤ x) (h1 : x ≤ 9223372036854775807) : wrap64 x = x := by unfold wrap64; omega
theorem ev_k {α : Type} {g : Nat → Option α} {r : α} (h : ∀ k, g k = some r) : Ev g r := ⟨0, fun k _ => h k⟩
theorem ev_some {α : Type} {r : α} : Ev (fun _ => some r) r := Ev.now r
theorem wf_i64 {x : Int} (h : (Lit.int .i64 x).wf = true) : -9223372036854775808 ≤ x ∧ x ≤ 9223372036854775807 := by
  simp only [Lit.wf, Bool.and_eq_true, decide_eq_true_eq] at h
  have h1 : IntKind.min .i64 = -9223372036854775808 := by decide
  have h2 : IntKind.max .i64 = 9223372036854775807 := by decide
  omega
theorem wf_u8 {x : Int} (h : (Lit.int .u8 x).wf = true) : 0 ≤ x ∧ x ≤ 255 := by
  simp only [Lit.wf, Bool.and_eq_true, decide_eq_true_eq] at h
  have h1 : IntKind.min .u8 = 0 := by decide
  have h2 : IntKind.max .u8 = 255 := by decide
  omega
/-! Loops over lists, whatever the elements. -/
theorem nat_w {j : Nat} (h : j ≤ 9223372036854775806) : wrap64 ((j : Int) + 1) = ((j + 1 : Nat) : Int) := by rw [w64 (by omega) (by omega)]; omega
theorem set_take {α : Type} {acc ys : List α} {j : Nat} (hl : acc.length = ys.length) (ht : acc.take j = ys.take j) (hj : j < ys.length) {v : α} (hv : ys[j]? = some v) : (acc.set j v).take (j + 1) = ys.take (j + 1) := by
  apply List.ext_getElem?
  intro i
  by_cases hi : i < j + 1
  · rw [List.getElem?_take_of_lt hi, List.getElem?_take_of_lt hi]
    by_cases e : i = j
    · subst e
      rw [List.getElem?_set_self (by omega), hv]
    · rw [List.getElem?_set_ne (by omega)]
      have h1 := congrArg (fun l => l[i]?) ht
      simp only [List.getElem?_take_of_lt (show i < j by omega)] at h1
      exact h1
  · rw [List.getElem?_eq_none (by simp; omega), List.getElem?_eq_none (by simp; omega)]
theorem getD_some {α : Type} {xs : List α} {j : Nat} (h : j < xs.length) (d : α) : xs[j]? = some (xs.getD j d) := by
  rw [List.getD_eq_getElem?_getD, List.getElem?_eq_getElem h]; rfl
/-- A loop that writes g of each element of xs into a row of the same length. -/
theorem copy_loop {α β : Type} (g : β → α) (d : β) (xs : List β) (L : Nat → List α → Int → Option (List α)) (hn : xs.length ≤ 9223372036854775806)
    (hs : ∀ k acc (j : Nat), L (k + 1) acc (j : Int) = if j < xs.length then (if j < acc.length then L k (acc.set j (g (xs.getD j d))) (wrap64 ((j : Int) + 1)) else none) else some acc)
    (m : Nat) : ∀ (j : Nat) (acc : List α), xs.length - j = m → j ≤ xs.length → acc.length = xs.length → acc.take j = (xs.map g).take j → Ev (fun k => L k acc (j : Int)) (xs.map g) := by
  induction m with
  | zero =>
    intro j acc h0 h1 h2 h3
    refine Ev.step (fun k => hs k acc j) ?_
    simp only [if_neg (show ¬ j < xs.length by omega)]
    have e : acc = xs.map g := by
      have h4 : acc.take j = acc := List.take_of_length_le (by omega)
      have h5 : (xs.map g).take j = xs.map g := List.take_of_length_le (by simp; omega)
      rw [← h4, h3, h5]
    rw [e]
    exact ev_some
  | succ m ih =>
    intro j acc h0 h1 h2 h3
    refine Ev.step (fun k => hs k acc j) ?_
    simp only [if_pos (show j < xs.length by omega), if_pos (show j < acc.length by omega)]
    rw [nat_w (by omega)]
    refine ih (j + 1) _ (by omega) (by omega) (by simpa using h2) ?_
    refine set_take (by simpa using h2) h3 (by simp; omega) ?_
    rw [List.getElem?_map, getD_some (show j < xs.length by omega) d]
    rfl
/-- A loop that asks each index, and goes on where the answer is yes. -/
theorem all_loop (n : Nat) (L : Nat → Int → Option Bool) (hn : n ≤ 9223372036854775806) (hs : ∀ k (j : Nat), j < n → L (k + 1) (j : Int) = L k (wrap64 ((j : Int) + 1))) (he : ∀ k, L (k + 1) (n : Int) = some true)
    (m : Nat) : ∀ j : Nat, n - j = m → j ≤ n → Ev (fun k => L k (j : Int)) true := by
  induction m with
  | zero =>
    intro j h0 h1
    obtain rfl : j = n := by omega
    exact Ev.step (fun k => he k) ev_some
  | succ m ih =>
    intro j h0 h1
    refine Ev.step (fun k => hs k j (by omega)) ?_
    rw [nat_w (by omega)]
    exact ih (j + 1) (by omega) (by omega)
/-- The elements one behind the other, each turned by f with a number that goes on by c. -/
def marked {α : Type} (c : Int) (f : Int → α → α) : Int → List α → List α
  | _, [] => []
  | s, x :: xs => f s x :: marked c f (s + c) xs
theorem marked_length {α : Type} (c : Int) (f : Int → α → α) : ∀ (s : Int) (xs : List α), (marked c f s xs).length = xs.length
  | _, [] => rfl
  | s, x :: xs => by simp [marked, marked_length c f (s + c) xs]
theorem marked_at {α : Type} (c : Int) (f : Int → α → α) : ∀ (s : Int) (xs : List α) (j : Nat) (d : α), j < xs.length → (marked c f s xs)[j]? = some (f (s + c * j) (xs.getD j d))
  | _, [], j, d, h => by simp at h
  | s, x :: xs, 0, d, _ => by simp [marked]
  | s, x :: xs, j + 1, d, h => by
    have := marked_at c f (s + c) xs j d (by simpa using h)
    simp only [marked, List.getElem?_cons_succ, List.getD_cons_succ]
    rw [this]
    congr 2
    rw [Int.natCast_succ, Int.mul_add]; omega
/-- A loop that marks a row. -/
theorem mark_loop {α : Type} (c : Nat) (hc : c ≤ 8) (f : Int → α → α) (d : α) (xs : List α) (L : Nat → List α → Int → Int → Option (Int × List α)) (hn : xs.length ≤ 2000000) (s0 : Nat) (hs0 : s0 ≤ 20000000)
    (hs : ∀ k acc (s : Nat) (j : Nat), acc.length = xs.length → s ≤ 40000000 → j < xs.length → L (k + 1) acc (s : Int) (j : Int) = L k (acc.set j (f (s : Int) (acc.getD j d))) ((s + c : Nat) : Int) (wrap64 ((j : Int) + 1)))
    (he : ∀ k acc (s : Int), acc.length = xs.length → L (k + 1) acc s (xs.length : Int) = some (s, acc))
    (m : Nat) : ∀ (j : Nat) (acc : List α), xs.length - j = m → j ≤ xs.length → acc.length = xs.length → acc.take j = (marked c f s0 xs).take j → acc.drop j = xs.drop j → Ev (fun k => L k acc ((s0 + c * j : Nat) : Int) (j : Int)) (((s0 + c * xs.length : Nat) : Int), marked c f s0 xs) := by
  induction m with
  | zero =>
    intro j acc h0 h1 h2 h3 _
    obtain rfl : j = xs.length := by omega
    refine Ev.step (fun k => he k acc _ h2) ?_
    have e : acc = marked c f s0 xs := by
      have h4 : acc.take xs.length = acc := List.take_of_length_le (by omega)
      have h5 : (marked c f s0 xs).take xs.length = marked c f s0 xs := List.take_of_length_le (by rw [marked_length]; omega)
      rw [← h4, h3, h5]
    rw [e]
    exact ev_some
  | succ m ih =>
    intro j acc h0 h1 h2 h3 h4
    have hb : c * j ≤ 8 * 2000000 := Nat.mul_le_mul hc (by omega)
    refine Ev.step (fun k => hs k acc _ j h2 (by omega) (by omega)) ?_
    rw [nat_w (by omega), show s0 + c * j + c = s0 + c * (j + 1) by rw [Nat.mul_add]; omega]
    have hg : acc.getD j d = xs.getD j d := by
      have h5 := congrArg (fun l => l[0]?) h4
      simp only [List.getElem?_drop, Nat.add_zero] at h5
      rw [List.getD_eq_getElem?_getD, List.getD_eq_getElem?_getD, h5]
    refine ih (j + 1) _ (by omega) (by omega) (by simpa using h2) ?_ ?_
    · refine set_take (by rw [marked_length]; exact h2) h3 (by rw [marked_length]; omega) ?_
      rw [marked_at c f s0 xs j d (by omega), hg]
      simp
    · rw [List.drop_set_of_lt (by omega), ← List.drop_drop, h4, List.drop_drop]
/-- A loop that looks whether a row is marked so. -/
theorem held_loop (c : Nat) (hc : c ≤ 8) (n : Nat) (L : Nat → Int → Int → Option Int) (hn : n ≤ 2000000) (s0 : Nat) (hs0 : s0 ≤ 20000000)
    (hs : ∀ k (j : Nat), j < n → L (k + 1) ((s0 + c * j : Nat) : Int) (j : Int) = L k ((s0 + c * j + c : Nat) : Int) (wrap64 ((j : Int) + 1)))
    (he : ∀ k (s : Int), L (k + 1) s (n : Int) = some s)
    (m : Nat) : ∀ j : Nat, n - j = m → j ≤ n → Ev (fun k => L k ((s0 + c * j : Nat) : Int) (j : Int)) (((s0 + c * n : Nat) : Int)) := by
  induction m with
  | zero =>
    intro j h0 h1
    obtain rfl : j = n := by omega
    exact Ev.step (fun k => he k _) ev_some
  | succ m ih =>
    intro j h0 h1
    refine Ev.step (fun k => hs k j (by omega)) ?_
    rw [nat_w (by omega), show s0 + c * j + c = s0 + c * (j + 1) by rw [Nat.mul_add]; omega]
    exact ih (j + 1) (by omega) (by omega)
theorem impl_in (x lo hi : Int) : impl_between.f x lo hi = some (decide (lo ≤ x ∧ x ≤ hi)) := by
  unfold impl_between.f
  by_cases h : x ≥ lo
  · have h' : lo ≤ x := h
    simp [h, h']
  · have h' : ¬ lo ≤ x := h
    simp [h, h']
/-! Times as texts. -/
def B (l : List UInt8) : ByteArray := ⟨l.toArray⟩
theorem B_app (a b : List UInt8) : B a ++ B b = B (a ++ b) := by
  apply ByteArray.ext
  rw [ByteArray.data_append]
  simp [B]
theorem B_size (l : List UInt8) : (B l).size = l.length := by
  show (l.toArray).size = l.length
  simp
def twoL (n : Nat) : List UInt8 := if n < 10 then 48 :: Lib.decDigits n else Lib.decDigits n
def timeL (m : Int) : List UInt8 := if 0 ≤ m ∧ m ≤ 100000 then twoL (m.toNat / 60) ++ 58 :: twoL (m.toNat % 60) else []
theorem dec_small {n : Nat} (h : n < 10) : Lib.decDigits n = [UInt8.ofNat (48 + n)] := by rw [Lib.decDigits, dif_pos h]
theorem dec_big {n : Nat} (h : ¬ n < 10) : Lib.decDigits n = Lib.decDigits (n / 10) ++ [UInt8.ofNat (48 + n % 10)] := by rw [Lib.decDigits, dif_neg h]
theorem dec_len : ∀ (d n : Nat), n < 10 ^ (d + 1) → (Lib.decDigits n).length ≤ d + 1
  | 0, n, h => by rw [dec_small (by simpa using h)]; simp
  | d + 1, n, h => by
    by_cases c : n < 10
    · rw [dec_small c]; simp
    · rw [dec_big c, List.length_append]
      have := dec_len d (n / 10) (by rw [Nat.pow_succ] at h; omega)
      simp only [List.length_cons, List.length_nil]
      omega
theorem itoa_T {n : Int} (h0 : 0 ≤ n) (h1 : n ≤ 1000000) : itoaT n = some (B (Lib.decDigits n.toNat)) := by
  unfold itoaT Lib.itoa B
  rw [if_pos ⟨by omega, by omega⟩, if_neg (by omega)]
theorem dec_le {n : Nat} (h : n ≤ 1000000) : (Lib.decDigits n).length ≤ 7 := dec_len 6 n (by omega)
theorem two_ev {n : Int} (h0 : 0 ≤ n) (h1 : n ≤ 1000000) : impl_twoDigits.f n = some (B (twoL n.toNat)) := by
  have hl := dec_le (n := n.toNat) (by omega)
  unfold impl_twoDigits.f twoL
  have hi : strconv_Itoa_18.f n = some (B (Lib.decDigits n.toNat)) := itoa_T h0 h1
  by_cases c : n < 10
  · rw [if_pos c, if_pos (show n.toNat < 10 by omega), hi]
    simp only [Option.bind_some, B_size]
    rw [if_pos (by omega)]
    exact congrArg some (B_app [48] _)
  · rw [if_neg c, if_neg (show ¬ n.toNat < 10 by omega), hi]
    rfl
theorem two_le {n : Nat} (h : n ≤ 1000000) : (twoL n).length ≤ 8 := by
  have := dec_le h
  unfold twoL
  split
  · simp only [List.length_cons]; omega
  · omega
theorem minute_T (m : Int) : impl_isMinute.f m = some (decide (0 ≤ m ∧ m ≤ 100000)) := by
  unfold impl_isMinute.f impl_between.f
  by_cases c : m ≥ 0
  · rw [if_pos c]
    simp only [Option.bind_some]
    congr 1
    exact decide_eq_decide.mpr (by omega)
  · rw [if_neg c, decide_eq_false (show ¬ (0 ≤ m ∧ m ≤ 100000) by omega)]
    rfl
theorem div60 {m : Int} (h : 0 ≤ m ∧ m ≤ 100000) : wrap64 (Int.tdiv m 60) = ((m.toNat / 60 : Nat) : Int) ∧ Int.tmod m 60 = ((m.toNat % 60 : Nat) : Int) := by
  have e1 : Int.tdiv m 60 = m / 60 := Int.tdiv_eq_ediv_of_nonneg h.1
  have e2 : Int.tmod m 60 = m % 60 := Int.tmod_eq_emod_of_nonneg h.1
  rw [e1, e2, w64 (by omega) (by omega)]
  omega
theorem time_impl (m : Int) : impl_TimeText.f m = some (B (timeL m)) := by
  unfold impl_TimeText.f timeL
  rw [minute_T]
  simp only [Option.bind_some, decide_eq_true_eq]
  by_cases c : 0 ≤ m ∧ m ≤ 100000
  · obtain ⟨e1, e2⟩ := div60 c
    have l1 := two_le (n := m.toNat / 60) (by omega)
    have l2 := two_le (n := m.toNat % 60) (by omega)
    rw [if_pos c, if_pos c, e1, e2, two_ev (by omega) (by omega), two_ev (by omega) (by omega)]
    simp only [Option.bind_some, Int.toNat_natCast]
    have ea : B (twoL (m.toNat / 60)) ++ (⟨#[58]⟩ : ByteArray) = B (twoL (m.toNat / 60) ++ [58]) := B_app _ [58]
    rw [ea, B_size, B_size, B_size, if_pos (by omega), if_pos (by rw [List.length_append]; simp only [List.length_cons, List.length_nil]; omega), B_app, List.append_assoc]
    rfl
  · rw [if_neg c, if_neg c]; rfl
theorem drop_cons {α : Type} {xs : List α} {j : Nat} {t : α} {rest : List α} (h : xs.drop j = t :: rest) : j < xs.length ∧ (∀ d, xs.getD j d = t) ∧ xs.drop (j + 1) = rest := by
  have hj : j < xs.length := by
    rcases Nat.lt_or_ge j xs.length with h1 | h1
    · exact h1
    · rw [List.drop_of_length_le h1] at h; cases h
  rw [List.drop_eq_getElem_cons hj] at h
  injection h with h1 h2
  exact ⟨hj, fun d => by rw [List.getD_eq_getElem?_getD, List.getElem?_eq_getElem hj, ← h1]; rfl, h2⟩
theorem drop_nil {α : Type} {xs : List α} {j : Nat} (h : xs.drop j = []) : xs.length ≤ j := by simpa using h
theorem rdI_at (xs : List Int) (j : Nat) : rd xs (j : Int) = xs.getD j 0 := by unfold rd; rw [Int.toNat_natCast]
theorem rdB_at (xs : List Bool) (j : Nat) : rdOf false xs (j : Int) = xs.getD j false := by unfold rdOf; rw [Int.toNat_natCast]
/-! Texts as lists of bytes, and a time read. -/
theorem toL_loop (s : ByteArray) : ∀ (d i : Nat) (r : List UInt8), s.size - i = d → i ≤ s.size → ByteArray.toList.loop s i r = r.reverse ++ s.data.toList.drop i := by
  intro d
  induction d with
  | zero =>
    intro i r h0 h1
    rw [ByteArray.toList.loop, if_neg (by omega), List.drop_of_length_le (by rw [data_length]; omega), List.append_nil]
  | succ d ih =>
    intro i r h0 h1
    have hi : i < s.data.toList.length := by rw [data_length]; omega
    rw [ByteArray.toList.loop, if_pos (by omega), ih (i + 1) _ (by omega) (by omega), List.reverse_cons, List.append_assoc]
    congr 1
    rw [List.drop_eq_getElem_cons hi, List.singleton_append]
    congr 1
    have hs : i < s.data.size := by simpa using hi
    show s.data[i]! = _
    rw [getElem!_pos s.data i hs, Array.getElem_toList]
theorem toL (s : ByteArray) : s.toList = s.data.toList := by
  have := toL_loop s s.size 0 [] (by omega) (by omega)
  simpa [ByteArray.toList] using this
theorem B_toL (l : List UInt8) : (B l).toList = l := by rw [toL]; rfl
theorem B_bytes (s : ByteArray) : B s.data.toList = s := by
  apply ByteArray.ext
  simp [B]
/-- The bytes as whole numbers. -/
def iL (l : List UInt8) : List Int := l.map fun b => (b.toNat : Int)
theorem iL_length (l : List UInt8) : (iL l).length = l.length := by simp [iL]
theorem bt_B (l : List UInt8) (j : Nat) : bt (B l) (j : Int) = (iL l).getD j 0 := by
  rw [← rd_bytesOf]
  unfold rd bytesOf iL B
  rw [Int.toNat_natCast]
theorem iL_byte {l : List UInt8} {x : Int} (h : x ∈ iL l) : 0 ≤ x ∧ x ≤ 255 := by
  obtain ⟨b, _, rfl⟩ := List.mem_map.1 h
  have := UInt8.toNat_lt b
  omega
theorem iL_at (l : List UInt8) (j : Nat) : 0 ≤ (iL l).getD j 0 ∧ (iL l).getD j 0 ≤ 255 := by
  rw [List.getD_eq_getElem?_getD]
  rcases Nat.lt_or_ge j (iL l).length with h | h
  · rw [List.getElem?_eq_getElem h]; exact iL_byte (List.getElem_mem h)
  · rw [List.getElem?_eq_none h]; simp
theorem B_ext (l : List UInt8) (i j : Nat) : (B l).extract i j = B ((l.drop i).take (j - i)) := by
  apply ByteArray.ext
  rw [ByteArray.data_extract]
  apply Array.ext'
  rw [Array.toList_extract]
  simp [B, List.extract]
/-- Digits read: -1 where one is none. -/
def digL : Int → List Int → Int
  | n, [] => n
  | n, c :: cs => if c < 48 then -1 else (if c > 57 then -1 else digL (10 * n + (c - 48)) cs)
/-- The same sum, whatever the signs. -/
def valL : Int → List Int → Int
  | n, [] => n
  | n, c :: cs => valL (n * 10 + c - 48) cs
theorem dig_val : ∀ (X : List Int) (n : Int), 0 ≤ digL n X → digL n X = valL n X
  | [], _, _ => rfl
  | c :: cs, n, h => by
    unfold digL at h ⊢
    unfold valL
    by_cases c1 : c < 48
    · rw [if_pos c1] at h; omega
    · rw [if_neg c1] at h ⊢
      by_cases c2 : c > 57
      · rw [if_pos c2] at h; omega
      · rw [if_neg c2] at h ⊢
        rw [dig_val cs _ h, show 10 * n + (c - 48) = n * 10 + c - 48 by omega]
theorem dig_all : ∀ (X : List Int) (n : Int), 0 ≤ n → (∀ c ∈ X, 48 ≤ c ∧ c ≤ 57) → 0 ≤ digL n X
  | [], n, h, _ => h
  | c :: cs, n, h, ha => by
    have hc := ha c (List.mem_cons_self ..)
    unfold digL
    rw [if_neg (by omega), if_neg (by omega)]
    exact dig_all cs _ (by omega) (fun x hx => ha x (List.mem_cons_of_mem _ hx))
theorem dig_bd : ∀ (X : List Int) (n : Int) (N : Nat), 0 ≤ n → n + 1 ≤ (N : Int) → -1 ≤ digL n X ∧ digL n X ≤ ((N * 10 ^ X.length : Nat) : Int)
  | [], n, N, h0, h1 => by
    unfold digL
    simp only [List.length_nil, Nat.pow_zero, Nat.mul_one]
    omega
  | c :: cs, n, N, h0, h1 => by
    unfold digL
    have hz : (0 : Int) ≤ ((N * 10 ^ (c :: cs).length : Nat) : Int) := Int.natCast_nonneg _
    by_cases c1 : c < 48
    · rw [if_pos c1]; omega
    · rw [if_neg c1]
      by_cases c2 : c > 57
      · rw [if_pos c2]; omega
      · rw [if_neg c2]
        have := dig_bd cs (10 * n + (c - 48)) (N * 10) (by omega) (by omega)
        rw [List.length_cons, Nat.pow_succ, Nat.mul_comm (10 ^ cs.length) 10, ← Nat.mul_assoc]
        exact this
theorem digits_loop (l : List UInt8) (hl : l.length ≤ 4) : ∀ (X : List Int) (j : Nat) (n : Int) (N : Nat), (iL l).drop j = X → j ≤ l.length → 0 ≤ n → n + 1 ≤ (N : Int) → N * 10 ^ X.length ≤ 1000000 →
    Ev (fun k => impl_digits.l0 k (B l) n (j : Int)) (digL n X) := by
  intro X
  induction X with
  | nil =>
    intro j n N h hj h0 h1 h2
    have := drop_nil h
    rw [iL_length] at this
    refine Ev.step (fun k => by rw [impl_digits.l0]) ?_
    simp only [B_size, if_neg (show ¬ (j : Int) < (l.length : Int) by omega)]
    exact ev_some
  | cons c X ih =>
    intro j n N h hj h0 h1 h2
    obtain ⟨a1, a2, a3⟩ := drop_cons h
    rw [iL_length] at a1
    have hc : 0 ≤ c ∧ c ≤ 255 := iL_byte (List.mem_of_mem_drop (by rw [h]; exact List.mem_cons_self ..))
    rw [List.length_cons, Nat.pow_succ, Nat.mul_comm (10 ^ X.length) 10, ← Nat.mul_assoc] at h2
    have hN : N * 10 ≤ 1000000 := Nat.le_trans (Nat.le_mul_of_pos_right _ (Nat.pow_pos (by omega))) h2
    have hb : bt (B l) (j : Int) = c := by rw [bt_B]; exact a2 0
    refine Ev.step (fun k => by rw [impl_digits.l0]) ?_
    simp only [B_size, if_pos (show (j : Int) < (l.length : Int) by omega), if_pos (show 0 ≤ (j : Int) by omega), hb]
    unfold digL
    by_cases c1 : c < 48
    · simp only [if_pos c1]; exact ev_some
    · simp only [if_neg c1]
      by_cases c2 : c > 57
      · simp only [if_pos c2]; exact ev_some
      · simp only [if_neg c2]
        have e1 : wrap64 (wrap64 (10 * n) + (c - 48) % 256) = 10 * n + (c - 48) := by
          rw [w64 (x := 10 * n) (by omega) (by omega), show (c - 48) % 256 = c - 48 by omega, w64 (by omega) (by omega)]
        rw [e1, nat_w (show j ≤ 9223372036854775806 by omega)]
        exact ih (j + 1) _ (N * 10) a3 (by omega) (by omega) (by omega) h2
theorem digits_ev (l : List UInt8) (m : Nat) (hm : m ≤ 4) : Ev (fun k => impl_digits.f k (B l) (m : Int)) (if l.length < 1 ∨ l.length > m then -1 else digL 0 (iL l)) := by
  have hno : Ev (fun k => impl_digits.j0 k (B l) true) (-1) := Ev.step (fun k => by rw [impl_digits.j0]) (by simpa using ev_some)
  unfold impl_digits.f
  by_cases c1 : l.length < 1
  · simp only [B_size, if_pos (show (l.length : Int) < 1 by omega), if_pos (show l.length < 1 ∨ l.length > m from Or.inl c1)]
    exact hno
  · simp only [B_size, if_neg (show ¬ (l.length : Int) < 1 by omega)]
    by_cases c2 : l.length > m
    · rw [decide_eq_true (show (l.length : Int) > (m : Int) by omega), if_pos (show l.length < 1 ∨ l.length > m from Or.inr c2)]
      exact hno
    · rw [decide_eq_false (show ¬ (l.length : Int) > (m : Int) by omega), if_neg (show ¬ (l.length < 1 ∨ l.length > m) by omega)]
      refine Ev.step (fun k => by rw [impl_digits.j0]) ?_
      simp only [Bool.false_eq_true, if_false]
      have hp : 10 ^ (iL l).length ≤ 10 ^ 4 := Nat.pow_le_pow_right (by omega) (by rw [iL_length]; omega)
      exact digits_loop l (by omega) (iL l) 0 0 1 rfl (by omega) (by omega) (by omega) (by omega)
/-- What the program reads of a text's bytes. -/
noncomputable def readI (l : List UInt8) : Int :=
  if l.length < 5 then -1 else (if (iL l).getD (l.length - 3) 0 ≠ 58 then -1 else (if l.length > 7 then -1 else
    (if digL 0 (iL (l.take (l.length - 3))) < 0 then -1 else (if digL 0 (iL (l.drop (l.length - 2))) < 0 then -1 else
      (if timeL (60 * digL 0 (iL (l.take (l.length - 3))) + digL 0 (iL (l.drop (l.length - 2)))) = l then 60 * digL 0 (iL (l.take (l.length - 3))) + digL 0 (iL (l.drop (l.length - 2))) else -1)))))
theorem read_impl (l : List UInt8) (hl : l.length ≤ 2000000) : Ev (fun k => impl_ReadTime.f k (B l)) (readI l) := by
  have hno : Ev (fun k => impl_ReadTime.j0 k (B l) true) (-1) := Ev.step (fun k => by rw [impl_ReadTime.j0]) (by simpa using ev_some)
  unfold impl_ReadTime.f readI
  by_cases c1 : l.length < 5
  · simp only [B_size, if_pos (show (l.length : Int) < 5 by omega), if_pos c1]
    exact hno
  · have e3 : (l.length : Int) - 3 = ((l.length - 3 : Nat) : Int) := by omega
    have e2 : (l.length : Int) - 2 = ((l.length - 2 : Nat) : Int) := by omega
    have w3 : wrap64 ((l.length : Int) - 3) = ((l.length - 3 : Nat) : Int) := by rw [w64 (by omega) (by omega)]; exact e3
    have w2 : wrap64 ((l.length : Int) - 2) = ((l.length - 2 : Nat) : Int) := by rw [w64 (by omega) (by omega)]; exact e2
    simp only [B_size, if_neg (show ¬ (l.length : Int) < 5 by omega), if_neg c1, w3, if_pos (show 0 ≤ ((l.length - 3 : Nat) : Int) by omega), if_pos (show ((l.length - 3 : Nat) : Int) < (l.length : Int) by omega), bt_B]
    by_cases c2 : (iL l).getD (l.length - 3) 0 ≠ 58
    · rw [bne_iff_ne.2 c2, if_pos c2]
      exact hno
    · rw [(bne_eq_false_iff_eq.2 (Decidable.not_not.1 c2) : ((iL l).getD (l.length - 3) 0 != 58) = false), if_neg c2]
      refine Ev.step (fun k => by rw [impl_ReadTime.j0]) ?_
      have d1 := digits_ev (l.take (l.length - 3)) 4 (by omega)
      have d2 := digits_ev (l.drop (l.length - 2)) 2 (by omega)
      rw [List.length_take, show min (l.length - 3) l.length = l.length - 3 by omega] at d1
      rw [List.length_drop, show l.length - (l.length - 2) = 2 by omega, if_neg (by omega)] at d2
      simp only [Bool.false_eq_true, if_false, B_size, w3, w2, if_pos (show 0 ≤ ((l.length - 3 : Nat) : Int) by omega), if_pos (show ((l.length - 3 : Nat) : Int) ≤ (l.length : Int) by omega), if_pos (show 0 ≤ ((l.length - 2 : Nat) : Int) by omega), if_pos (show ((l.length - 2 : Nat) : Int) ≤ (l.length : Int) by omega), Int.toNat_natCast, B_ext, Nat.sub_zero, List.drop_zero]
      rw [show (l.drop (l.length - 2)).take (l.length - (l.length - 2)) = l.drop (l.length - 2) from List.take_of_length_le (by rw [List.length_drop]; omega)]
      refine Ev.bind d1 (Ev.bind d2 ?_)
      by_cases c3 : l.length > 7
      · rw [if_pos (show l.length - 3 < 1 ∨ l.length - 3 > 4 by omega)]
        simp only [if_pos c3, if_pos (show (-1 : Int) < 0 by decide)]
        exact ev_some
      · rw [if_neg (show ¬ (l.length - 3 < 1 ∨ l.length - 3 > 4) by omega)]
        simp only [if_neg c3]
        have b1 := (dig_bd (iL (l.take (l.length - 3))) 0 1 (by omega) (by omega)).2
        have b2 := (dig_bd (iL (l.drop (l.length - 2))) 0 1 (by omega) (by omega)).2
        have p1 : 1 * 10 ^ (iL (l.take (l.length - 3))).length ≤ 10 ^ 4 := by rw [Nat.one_mul]; exact Nat.pow_le_pow_right (by omega) (by rw [iL_length, List.length_take]; omega)
        have p2 : 1 * 10 ^ (iL (l.drop (l.length - 2))).length ≤ 10 ^ 2 := by rw [Nat.one_mul]; exact Nat.pow_le_pow_right (by omega) (by rw [iL_length, List.length_drop]; omega)
        generalize 1 * 10 ^ (iL (l.take (l.length - 3))).length = P1 at b1 p1
        generalize 1 * 10 ^ (iL (l.drop (l.length - 2))).length = P2 at b2 p2
        generalize digL 0 (iL (l.take (l.length - 3))) = H at *
        generalize digL 0 (iL (l.drop (l.length - 2))) = M at *
        by_cases c4 : H < 0
        · simp only [if_pos c4]; exact ev_some
        · simp only [if_neg c4]
          by_cases c5 : M < 0
          · simp only [if_pos c5]; exact ev_some
          · simp only [if_neg c5, w64 (x := 60 * H) (by omega) (by omega), w64 (x := 60 * H + M) (by omega) (by omega), time_impl, Option.bind_some, B_toL]
            by_cases c6 : timeL (60 * H + M) = l
            · simp only [if_pos c6]; exact ev_some
            · simp only [if_neg c6]; exact ev_some
/-! A printed time's bytes: digits, a colon, two digits. -/
theorem u8_digit {n : Nat} (h : n < 10) : ((UInt8.ofNat (48 + n)).toNat : Int) = 48 + n := by
  rw [UInt8.toNat_ofNat']
  omega
theorem dec_digits : ∀ (d n : Nat), n < 10 ^ (d + 1) → ∀ c ∈ iL (Lib.decDigits n), 48 ≤ c ∧ c ≤ 57
  | 0, n, h, c, hc => by
    rw [dec_small (by simpa using h)] at hc
    have := u8_digit (n := n) (by simpa using h)
    simp only [iL, List.map_cons, List.map_nil, List.mem_singleton] at hc
    have : n < 10 := by simpa using h
    omega
  | d + 1, n, h, c, hc => by
    by_cases c2 : n < 10
    · rw [dec_small c2] at hc
      have := u8_digit c2
      simp only [iL, List.map_cons, List.map_nil, List.mem_singleton] at hc
      omega
    · rw [dec_big c2] at hc
      simp only [iL, List.map_append, List.mem_append, List.map_cons, List.map_nil, List.mem_singleton] at hc
      rcases hc with hc | hc
      · exact dec_digits d (n / 10) (by rw [Nat.pow_succ] at h; omega) c hc
      · have := u8_digit (n := n % 10) (by omega)
        omega
theorem two_digits {n : Nat} (h : n ≤ 1000000) : ∀ c ∈ iL (twoL n), 48 ≤ c ∧ c ≤ 57 := by
  intro c hc
  have hd := dec_digits 6 n (by omega)
  unfold twoL at hc
  split at hc
  · simp only [iL, List.map_cons, List.mem_cons] at hc
    rcases hc with hc | hc
    · rw [hc]; decide
    · exact hd c hc
  · exact hd c hc
theorem two_two {n : Nat} (h : n < 100) : (twoL n).length = 2 := by
  unfold twoL
  by_cases c : n < 10
  · rw [if_pos c, dec_small c]; rfl
  · rw [if_neg c, dec_big c, dec_small (by omega)]; rfl
theorem time_parts {m : Int} {l : List UInt8} (h : timeL m = l) (h5 : 0 < l.length) : (0 ≤ m ∧ m ≤ 100000) ∧ 3 ≤ l.length ∧ l.take (l.length - 3) = twoL (m.toNat / 60) ∧ l.drop (l.length - 2) = twoL (m.toNat % 60) ∧ (iL l).getD (l.length - 3) 0 = 58 := by
  unfold timeL at h
  by_cases c : 0 ≤ m ∧ m ≤ 100000
  · rw [if_pos c] at h
    have l2 := two_two (n := m.toNat % 60) (by omega)
    generalize twoL (m.toNat / 60) = X at *
    generalize twoL (m.toNat % 60) = Y at *
    subst h
    have hl : (X ++ 58 :: Y).length = X.length + 3 := by rw [List.length_append, List.length_cons]; omega
    rw [hl, Nat.add_sub_cancel, show X.length + 3 - 2 = X.length + 1 by omega]
    refine ⟨c, by omega, List.take_left, ?_, ?_⟩
    · rw [List.drop_append, List.drop_of_length_le (by omega), show X.length + 1 - X.length = 1 by omega]; rfl
    · unfold iL
      rw [List.map_append, List.getD_eq_getElem?_getD, List.getElem?_append_right (by simp), List.length_map, Nat.sub_self]; rfl
  · rw [if_neg c] at h
    subst h
    simp at h5
theorem at_ev (l : List Int) (hl : l.length ≤ 2000000) (hw : ∀ x ∈ l, (Lit.int .u8 x).wf = true) (i : Int) (h0 : 0 ≤ i) (h1 : i ≤ 1000) : ∃ v, laws_at.f l i = some v ∧ 0 ≤ v ∧ v ≤ 255 := by
  unfold laws_at.f
  by_cases h : i < (l.length : Int)
  · simp only [if_pos h, if_pos h0]
    have hr : 0 ≤ rd l i ∧ rd l i ≤ 255 := by
      unfold rd
      rw [List.getD_eq_getElem?_getD, List.getElem?_eq_getElem (show i.toNat < l.length by omega)]
      exact wf_u8 (hw _ (List.getElem_mem _))
    exact ⟨_, rfl, by rw [w64 (by omega) (by omega)]; omega, by rw [w64 (by omega) (by omega)]; omega⟩
  · simp only [if_neg h]
    refine ⟨_, rfl, ?_⟩
    rw [w64 (x := i * 11) (by omega) (by omega), w64 (x := (l.length : Int) * 3) (by omega) (by omega), w64 (by omega) (by omega), Int.tmod_eq_emod_of_nonneg (by omega)]
    omega
theorem val_app : ∀ (X : List Int) (n c : Int), valL n (X ++ [c]) = valL n X * 10 + c - 48
  | [], _, _ => rfl
  | x :: X, n, c => val_app X (n * 10 + x - 48) c
theorem val_dec : ∀ (d n : Nat), n < 10 ^ (d + 1) → valL 0 (iL (Lib.decDigits n)) = (n : Int)
  | 0, n, h => by
    have h' : n < 10 := by simpa using h
    rw [dec_small h']
    have := u8_digit h'
    simp only [iL, List.map_cons, List.map_nil, valL]
    omega
  | d + 1, n, h => by
    by_cases c2 : n < 10
    · rw [dec_small c2]
      have := u8_digit c2
      simp only [iL, List.map_cons, List.map_nil, valL]
      omega
    · have hd := val_dec d (n / 10) (by rw [Nat.pow_succ] at h; omega)
      have := u8_digit (n := n % 10) (by omega)
      have e : iL (Lib.decDigits n) = iL (Lib.decDigits (n / 10)) ++ [((UInt8.ofNat (48 + n % 10)).toNat : Int)] := by
        rw [dec_big c2]; simp [iL]
      rw [e, val_app, hd, this]
      omega
theorem val_two {n : Nat} (h : n ≤ 1000000) : valL 0 (iL (twoL n)) = (n : Int) := by
  have hd := val_dec 6 n (by omega)
  unfold twoL
  split
  · have e : iL (48 :: Lib.decDigits n) = 48 :: iL (Lib.decDigits n) := by simp [iL]
    rw [e]
    simpa [valL] using hd
  · exact hd
theorem two_ge {n : Nat} (h : n ≤ 1666) : 2 ≤ (twoL n).length ∧ (twoL n).length ≤ 4 := by
  have hl := dec_len 3 n (by omega)
  unfold twoL
  by_cases c : n < 10
  · rw [if_pos c, dec_small c]; simp
  · rw [if_neg c]
    refine ⟨?_, by omega⟩
    rw [dec_big c, List.length_append]
    have : 0 < (Lib.decDigits (n / 10)).length := by
      by_cases c2 : n / 10 < 10
      · rw [dec_small c2]; simp
      · rw [dec_big c2, List.length_append]; simp only [List.length_cons, List.length_nil]; omega
    simp only [List.length_cons, List.length_nil]
    omega
theorem time_len {m : Int} (h : 0 ≤ m ∧ m ≤ 100000) : 5 ≤ (timeL m).length ∧ (timeL m).length ≤ 7 := by
  unfold timeL
  have l2 := two_two (n := m.toNat % 60) (by omega)
  rw [if_pos h, List.length_append, List.length_cons, l2]
  have := two_ge (n := m.toNat / 60) (by omega)
  omega
theorem read_back {m : Int} (h : 0 ≤ m ∧ m ≤ 100000) : readI (timeL m) = m := by
  obtain ⟨l5, l7⟩ := time_len h
  obtain ⟨_, _, p1, p2, p3⟩ := time_parts (m := m) rfl (by omega)
  have a1 : 0 ≤ digL 0 (iL (twoL (m.toNat / 60))) := dig_all _ 0 (by omega) (two_digits (by omega))
  have a2 : 0 ≤ digL 0 (iL (twoL (m.toNat % 60))) := dig_all _ 0 (by omega) (two_digits (by omega))
  have b1 := dig_val _ _ a1
  have b2 := dig_val _ _ a2
  rw [val_two (by omega)] at b1 b2
  unfold readI
  rw [if_neg (by omega), if_neg (fun hn => hn p3), if_neg (by omega), p1, p2, if_neg (by omega), if_neg (by omega), b1, b2]
  have e : 60 * ((m.toNat / 60 : Nat) : Int) + ((m.toNat % 60 : Nat) : Int) = m := by omega
  rw [e, if_pos rfl]
theorem read_nought {m : Int} (h : 0 ≤ m ∧ m ≤ 100000) : readI (48 :: timeL m) = -1 := by
  obtain ⟨l5, l7⟩ := time_len h
  obtain ⟨_, _, p1, p2, p3⟩ := time_parts (m := m) rfl (by omega)
  unfold readI
  split
  · rfl
  split
  · rfl
  split
  · rfl
  split
  · rfl
  split
  · rfl
  split
  · rename_i hS
    exfalso
    generalize hv : 60 * digL 0 (iL (List.take ((48 :: timeL m).length - 3) (48 :: timeL m))) + digL 0 (iL (List.drop ((48 :: timeL m).length - 2) (48 :: timeL m))) = S at hS
    obtain ⟨hr, _, q1, q2, _⟩ := time_parts hS (by simp)
    have t1 : List.take ((48 :: timeL m).length - 3) (48 :: timeL m) = 48 :: twoL (m.toNat / 60) := by
      rw [List.length_cons, show (timeL m).length + 1 - 3 = ((timeL m).length - 3) + 1 by omega, List.take_succ_cons, p1]
    have t2 : List.drop ((48 :: timeL m).length - 2) (48 :: timeL m) = twoL (m.toNat % 60) := by
      rw [List.length_cons, show (timeL m).length + 1 - 2 = ((timeL m).length - 2) + 1 by omega, List.drop_succ_cons, p2]
    rw [t1] at q1
    rw [t2] at q2
    have v1 : valL 0 (iL (48 :: twoL (m.toNat / 60))) = ((m.toNat / 60 : Nat) : Int) := by
      have e : iL (48 :: twoL (m.toNat / 60)) = 48 :: iL (twoL (m.toNat / 60)) := by simp [iL]
      have := val_two (n := m.toNat / 60) (by omega)
      rw [e]
      simpa [valL] using this
    have v2 := val_two (n := m.toNat % 60) (by omega)
    rw [q1, val_two (by omega)] at v1
    rw [q2, val_two (by omega)] at v2
    have hSm : S = m := by omega
    rw [hSm] at hS
    have := congrArg List.length hS
    rw [List.length_cons] at this
    omega
  · rfl
theorem time_next {m : Int} (h : 0 ≤ m ∧ m ≤ 99999) : (timeL (m + 1) == timeL m) = false := by
  rw [beq_eq_false_iff_ne]
  intro e
  have h1 := read_back (m := m) (by omega)
  have h2 := read_back (m := m + 1) (by omega)
  rw [e] at h2
  omega
theorem time_425 : timeL 425 = [48, 55, 58, 48, 53] := by
  unfold timeL twoL
  rw [if_pos (by decide), show (425 : Int).toNat / 60 = 7 from rfl, show (425 : Int).toNat % 60 = 5 from rfl, if_pos (by decide), if_pos (by decide), dec_small (by decide), dec_small (by decide)]
  rfl
theorem FnTimes : laws_FnTimes.Pure := by
  intro l _ _ hb
  refine Ev.rounds ?_
  unfold laws_FnTimes.f laws_big.f
  simp only [Option.bind_some, decide_eq_true_eq]
  by_cases h : (l.length : Int) > 1048576
  · simp only [if_pos h]; exact ev_some
  · simp only [if_neg h]
    have hll : l.length ≤ 2000000 := by omega
    obtain ⟨v0, e0, p0, q0⟩ := at_ev l hll hb 0 (by omega) (by omega)
    obtain ⟨v1, e1, p1, q1⟩ := at_ev l hll hb 1 (by omega) (by omega)
    have w : wrap64 (wrap64 (v0 * 256) + v1) = v0 * 256 + v1 := by rw [w64 (x := v0 * 256) (by omega) (by omega), w64 (by omega) (by omega)]
    simp only [e0, e1, Option.bind_some, w, time_impl]
    have hm : 0 ≤ v0 * 256 + v1 ∧ v0 * 256 + v1 ≤ 65535 := by omega
    generalize v0 * 256 + v1 = m at hm ⊢
    rw [w64 (x := m + 1) (by omega) (by omega)]
    have hr1 := read_impl (timeL m) (by have := time_len (m := m) (by omega); omega)
    have hr2 := read_impl (timeL (m + 1)) (by have := time_len (m := m + 1) (by omega); omega)
    have hr3 := read_impl (48 :: timeL m) (by have := time_len (m := m) (by omega); rw [List.length_cons]; omega)
    rw [read_back (by omega)] at hr1 hr2
    rw [read_nought (by omega)] at hr3
    have hlen := time_len (m := m) (by omega)
    have ha : (⟨#[48]⟩ : ByteArray) ++ B (timeL m) = B (48 :: timeL m) := B_app [48] _
    refine Ev.bind hr1 ?_
    simp only [if_true, B_size, if_pos (show 1 + (timeL m).length ≤ 9223372036854775807 by omega), ha]
    refine Ev.bind hr3 ?_
    simp only [if_true]
    refine Ev.bind hr2 ?_
    simp only [if_true, B_toL, time_next (show 0 ≤ m ∧ m ≤ 99999 by omega)]
    have hr4 := read_impl (timeL 100000) (by have := time_len (m := 100000) (by omega); omega)
    rw [read_back (by omega)] at hr4
    have hr5 := read_impl [] (by simp)
    have e5 : readI [] = -1 := by unfold readI; rw [if_pos (by simp)]
    rw [e5] at hr5
    have e6 : timeL 100001 = [] := by unfold timeL; rw [if_neg (by decide)]
    refine Ev.step (fun k => by rw [laws_FnTimes.j0]) ?_
    simp only [Bool.false_eq_true, if_false, time_impl, Option.bind_some]
    refine Ev.bind hr4 ?_
    simp only [if_true, B_toL, e6]
    refine Ev.bind hr5 ?_
    simp only [if_true, time_425, beq_self_eq_true]
    exact ev_some

end Go.Proofs.YtgjhlkjfdlkndaaDoor.Pure
