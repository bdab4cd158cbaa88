/- Of a number of six drawn bytes, its remainder's square and its neighbours: Root is the greatest whole number whose square is not beyond it; for every list of bytes. -/
import Derived.Test.YtfcljimfpjoioaaRowFnRoots
namespace Go.Proofs.Ytfcljimfpjoioaa.Pure
open Go.RowKit Go.Proofs.Ytfcljimfpjoioaa.PFnRoots Go.Proofs.YtfcljimfpjoioaaW.PrintWords Go.Proofs.YtfcljimfpjoioaaW.PrintLast Go.Proofs.YtfcljimfpjoioaaW.PrintMore
set_option linter.unusedVariables false
set_option linter.unusedSimpArgs false
theorem w64 {x : Int} (h0 : -9223372036854775808 ≤ x) (h1 : x ≤ 9223372036854775807) : wrap64 x = x := by unfold wrap64; omega
theorem ev_k {α : Type} {g : Nat → Option α} {r : α} (h : ∀ k, g k = some r) : Ev g r := ⟨0, fun k _ => h k⟩
theorem ev_some {α : Type} {r : α} : Ev (fun _ => some r) r := Ev.now r
theorem wf_i64 {x : Int} (h : (Lit.int .i64 x).wf = true) : -9223372036854775808 ≤ x ∧ x ≤ 9223372036854775807 := by
  simp only [Lit.wf, Bool.and_eq_true, decide_eq_true_eq] at h
  have h1 : IntKind.min .i64 = -9223372036854775808 := by decide
  have h2 : IntKind.max .i64 = 9223372036854775807 := by decide
  omega
theorem wf_u8 {x : Int} (h : (Lit.int .u8 x).wf = true) : 0 ≤ x ∧ x ≤ 255 := by
  simp only [Lit.wf, Bool.and_eq_true, decide_eq_true_eq] at h
  have h1 : IntKind.min .u8 = 0 := by decide
  have h2 : IntKind.max .u8 = 255 := by decide
  omega
/-- The greatest number whose square is at most n. -/
def rootN : Nat → Nat
  | 0 => 0
  | n + 1 => if (rootN n + 1) * (rootN n + 1) ≤ n + 1 then rootN n + 1 else rootN n
theorem rootN_spec (n : Nat) : rootN n * rootN n ≤ n ∧ n < (rootN n + 1) * (rootN n + 1) := by
  induction n with
  | zero => simp [rootN]
  | succ n ih =>
    unfold rootN
    split
    · refine ⟨by assumption, ?_⟩
      have : (rootN n + 1 + 1) * (rootN n + 1 + 1) = (rootN n + 1) * (rootN n + 1) + 2 * (rootN n + 1) + 1 := by
        rw [Nat.add_mul (rootN n + 1) 1, Nat.mul_add]; omega
      omega
    · omega
def root (x : Int) : Int := (rootN x.toNat : Int)
theorem root_nonneg (x : Int) : 0 ≤ root x := by unfold root; omega
theorem root_neg {x : Int} (h : x ≤ 0) : root x = 0 := by
  unfold root
  have : x.toNat = 0 := by omega
  rw [this]; rfl
theorem root_spec {x : Int} (h : 0 ≤ x) : root x * root x ≤ x ∧ x < (root x + 1) * (root x + 1) := by
  have h1 := rootN_spec x.toNat
  unfold root
  have e : ((x.toNat : Nat) : Int) = x := by omega
  constructor
  · have := Int.ofNat_le.mpr h1.1
    rw [e] at this
    simpa using this
  · have := Int.ofNat_lt.mpr h1.2
    rw [e] at this
    simpa using this
theorem sq_le {a b : Int} (h0 : 0 ≤ a) (h : a ≤ b) : a * a ≤ b * b := Int.mul_le_mul h h h0 (by omega)
theorem sq_lt {a b : Int} (h0 : 0 ≤ b) (h : a * a < b * b) : a < b := by
  rcases Int.lt_or_le a b with h1 | h1
  · exact h1
  · have := sq_le h0 h1
    omega
theorem root_eq {x r : Int} (h0 : 0 ≤ r) (h1 : r * r ≤ x) (h2 : x < (r + 1) * (r + 1)) : root x = r := by
  have hx : 0 ≤ x := by have := Int.mul_nonneg h0 h0; omega
  have h3 := root_spec hx
  have h4 := root_nonneg x
  have h5 : root x < r + 1 := sq_lt (by omega) (by omega)
  have h6 : r < root x + 1 := sq_lt (by omega) (by omega)
  omega
theorem root_mono {x y : Int} (h : x ≤ y) : root x ≤ root y := by
  rcases Int.lt_or_le x 0 with h1 | h1
  · rw [root_neg (by omega)]; exact root_nonneg y
  · have h2 := root_spec h1
    have h3 := root_spec (show 0 ≤ y by omega)
    have h4 := root_nonneg y
    have : root x < root y + 1 := sq_lt (by omega) (by omega)
    omega
theorem root_le {x : Int} (h : x ≤ 9223372036854775807) : root x ≤ 3037000499 := by
  rcases Int.lt_or_le x 0 with h1 | h1
  · rw [root_neg (by omega)]; omega
  · have h2 := root_spec h1
    have : root x < 3037000499 + 1 := sq_lt (by omega) (by omega)
    omega
theorem impl_root_loop (x : Int) (hx : x ≤ 9223372036854775807) (d : Nat) : ∀ lo hi : Int, 0 ≤ lo → lo < hi → hi ≤ 3037000500 → (hi - lo).toNat ≤ d → (0 ≤ x → lo * lo ≤ x) → (x < 0 → lo = 0) → x < hi * hi → Ev (fun k => impl_Root.l0 k x lo hi) (root x) := by
  induction d with
  | zero => intro lo hi h0 h1 h2 h3; omega
  | succ d ih =>
    intro lo hi h0 h1 h2 h3 h4 h5 h6
    refine Ev.step (fun k => by rw [impl_Root.l0]) ?_
    rw [w64 (x := hi - lo) (by omega) (by omega), w64 (x := lo + hi) (by omega) (by omega)]
    have hm : Int.tdiv (lo + hi) 2 = (lo + hi) / 2 := Int.tdiv_eq_ediv_of_nonneg (by omega)
    rw [hm, w64 (x := (lo + hi) / 2) (by omega) (by omega)]
    generalize hM : (lo + hi) / 2 = M
    by_cases hg : hi - lo > 1
    · simp only [if_pos hg]
      have a1 : lo < M := by omega
      have a2 : M < hi := by omega
      have a3 : M * M ≤ 3037000499 * 3037000499 := sq_le (by omega) (by omega)
      have a4 : 0 ≤ M * M := Int.mul_nonneg (by omega) (by omega)
      rw [w64 (x := M * M) (by omega) (by omega)]
      by_cases hc : M * M ≤ x
      · simp only [if_pos hc]
        exact ih M hi (by omega) a2 h2 (by omega) (fun _ => hc) (fun h => by omega) h6
      · simp only [if_neg hc]
        exact ih lo M h0 a1 (by omega) (by omega) h4 h5 (by omega)
    · simp only [if_neg hg]
      have e : hi = lo + 1 := by omega
      subst e
      rcases Int.lt_or_le x 0 with h7 | h7
      · rw [root_neg (by omega), h5 h7]
        exact ev_some
      · rw [root_eq h0 (h4 h7) h6]
        exact ev_some
theorem impl_root_ev (x : Int) (hx : x ≤ 9223372036854775807) : Ev (fun k => impl_Root.f k x) (root x) := by
  unfold impl_Root.f
  refine impl_root_loop x hx 3037000500 0 3037000500 (by omega) (by omega) (by omega) (by omega) (fun h => by omega) (fun _ => rfl) (by omega)
theorem at_ev (l : List Int) (hl : l.length ≤ 2000000) (hw : ∀ x ∈ l, (Lit.int .u8 x).wf = true) (i : Int) (h0 : 0 ≤ i) (h1 : i ≤ 1000) : ∃ v, laws_at.f l i = some v ∧ 0 ≤ v ∧ v ≤ 255 := by
  unfold laws_at.f
  by_cases h : i < (l.length : Int)
  · simp only [if_pos h, if_pos h0]
    have hr : 0 ≤ rd l i ∧ rd l i ≤ 255 := by
      unfold rd
      rw [List.getD_eq_getElem?_getD, List.getElem?_eq_getElem (show i.toNat < l.length by omega)]
      exact wf_u8 (hw _ (List.getElem_mem _))
    exact ⟨_, rfl, by rw [w64 (by omega) (by omega)]; omega, by rw [w64 (by omega) (by omega)]; omega⟩
  · simp only [if_neg h]
    refine ⟨_, rfl, ?_⟩
    rw [w64 (x := i * 11) (by omega) (by omega), w64 (x := (l.length : Int) * 3) (by omega) (by omega), w64 (by omega) (by omega), Int.tmod_eq_emod_of_nonneg (by omega)]
    omega
theorem roots_end (x : Int) (h0 : 0 ≤ x) (h1 : x < 281474976710656) : Ev (fun k => laws_FnRoots.j1 k x false) true := by
  refine Ev.step (fun k => by rw [laws_FnRoots.j1]) ?_
  simp only [Bool.false_eq_true, if_false]
  rw [Int.tmod_eq_emod_of_nonneg h0]
  generalize hK : x % 3037000499 = K
  have hk : 0 ≤ K ∧ K ≤ 3037000498 := by omega
  have hq := sq_le hk.1 hk.2
  have hq0 := Int.mul_nonneg hk.1 hk.1
  rw [w64 (x := K * K) (by omega) (by omega), w64 (x := -x) (by omega) (by omega), w64 (x := -x - 1) (by omega) (by omega), w64 (x := K * K - 1) (by omega) (by omega), w64 (x := K - 1) (by omega) (by omega)]
  refine Ev.bind (impl_root_ev _ (by omega)) ?_
  have e1 : root (K * K) = K := root_eq hk.1 (Int.le_refl _) (by have : (K + 1) * (K + 1) = K * K + 2 * K + 1 := by rw [Int.add_mul, Int.mul_add]; omega
                                                                 omega)
  rw [e1]
  simp only [if_true]
  refine Ev.bind (impl_root_ev _ (by omega)) ?_
  rw [root_neg (by omega)]
  simp only [if_true]
  have e2 : root 9223372036854775807 = 3037000499 := root_eq (by omega) (by omega) (by omega)
  by_cases hz : K = 0
  · simp only [if_pos hz]
    refine Ev.bind (impl_root_ev _ (by omega)) ?_
    rw [e2]
    exact ev_some
  · simp only [if_neg hz]
    refine Ev.bind (impl_root_ev _ (by omega)) ?_
    have e3 : root (K * K - 1) = K - 1 := root_eq (by omega) (by have : (K - 1) * (K - 1) = K * K - 2 * K + 1 := by rw [Int.sub_mul, Int.mul_sub]; omega
                                                                 omega) (by rw [show K - 1 + 1 = K by omega]; omega)
    rw [e3]
    simp only [if_true]
    refine Ev.bind (impl_root_ev _ (by omega)) ?_
    rw [e2]
    exact ev_some
theorem roots_rest (x : Int) (h0 : 0 ≤ x) (h1 : x < 281474976710656) (r : Int) (hr : r = root x) : (r < 0) = False ∧ (r > 33554432) = False ∧ (wrap64 (r * r) > x) = False ∧ decide (wrap64 (wrap64 (r + 1) * wrap64 (r + 1)) ≤ x) = false := by
  subst hr
  have h2 := root_spec h0
  have h3 := root_nonneg x
  have h4 : root x < 16777216 := sq_lt (by omega) (by omega)
  have h5 := sq_le (show 0 ≤ root x + 1 by omega) (show root x + 1 ≤ 16777216 by omega)
  have h6 := Int.mul_nonneg h3 h3
  have h7 := Int.mul_nonneg (show 0 ≤ root x + 1 by omega) (show 0 ≤ root x + 1 by omega)
  rw [w64 (x := root x + 1) (by omega) (by omega), w64 (x := root x * root x) (by omega) (by omega), w64 (x := (root x + 1) * (root x + 1)) (by omega) (by omega)]
  refine ⟨eq_false (by omega), eq_false (by omega), eq_false (by omega), decide_eq_false (by omega)⟩
theorem pow_at (j : Nat) (h : j < 6) (x v : Int) (h0 : 0 ≤ x) (h1 : x < 256 ^ j) (h2 : 0 ≤ v) (h3 : v ≤ 255) : wrap64 (wrap64 (x * 256) + v) = x * 256 + v ∧ 0 ≤ x * 256 + v ∧ x * 256 + v < 256 ^ (j + 1) := by
  have hj : j = 0 ∨ j = 1 ∨ j = 2 ∨ j = 3 ∨ j = 4 ∨ j = 5 := by omega
  rcases hj with rfl | rfl | rfl | rfl | rfl | rfl <;> simp only [Int.reducePow] at h1 ⊢ <;> (rw [w64 (x := x * 256) (by omega) (by omega), w64 (by omega) (by omega)]; omega)
theorem roots_loop (l : List Int) (hl : l.length ≤ 2000000) (hw : ∀ x ∈ l, (Lit.int .u8 x).wf = true) (m : Nat) : ∀ (j : Nat) (x : Int), 6 - j = m → j ≤ 6 → 0 ≤ x → x < 256 ^ j → Ev (fun k => laws_FnRoots.l0 k l x (j : Int)) true := by
  induction m with
  | zero =>
    intro j x h0 h1 h2 h3
    obtain rfl : j = 6 := by omega
    refine Ev.step (fun k => by rw [laws_FnRoots.l0]) ?_
    simp only [if_neg (show ¬ (((6 : Nat) : Int) < 6) by omega)]
    refine Ev.bind (impl_root_ev x (by simp only [Int.reducePow] at h3; omega)) ?_
    simp only [Int.reducePow] at h3
    obtain ⟨a1, a2, a3, a4⟩ := roots_rest x h2 h3 _ rfl
    simp only [a1, a2, a3, a4, if_false]
    exact roots_end x h2 h3
  | succ m ih =>
    intro j x h0 h1 h2 h3
    refine Ev.step (fun k => by rw [laws_FnRoots.l0]) ?_
    obtain ⟨v, h4, h5, h6⟩ := at_ev l hl hw j (by omega) (by omega)
    obtain ⟨b1, b2, b3⟩ := pow_at j (by omega) x v h2 h3 h5 h6
    simp only [if_pos (show (j : Int) < 6 by omega), h4, Option.bind_some]
    rw [b1, w64 (x := (j : Int) + 1) (by omega) (by omega)]
    exact ih (j + 1) (x * 256 + v) (by omega) (by omega) b2 b3
theorem FnRoots : laws_FnRoots.PureR := by
  intro l h1
  have hw := h1.2
  refine Ev.rounds ?_
  unfold laws_FnRoots.f laws_big.f
  simp only [Option.bind_some, decide_eq_true_eq]
  by_cases h : (l.length : Int) > 1048576
  · simp only [if_pos h]; exact ev_some
  · simp only [if_neg h]
    exact roots_loop l (by omega) hw 6 0 0 (by omega) (by omega) (by omega) (by decide)

end Go.Proofs.Ytfcljimfpjoioaa.Pure
