/- The program's CellTime returns what the reference's returns, for all pairs of numbers. -/
import Derived.Test.YtfcljimfpjoioabPFnExactCellTimex1
namespace Go.Proofs.Ytfcljimfpjoioab.Pure
open Go.RowKit Go.Proofs.Ytfcljimfpjoioab.PFnExactCellTime Go.Proofs.YtfcljimfpjoioabW.PrintWords Go.Proofs.YtfcljimfpjoioabW.PrintLast Go.Proofs.YtfcljimfpjoioabW.PrintMore
set_option linter.unusedVariables false
set_option linter.unusedSimpArgs false
theorem w64 {x : Int} (h0 : -9223372036854775808 ≤ x) (h1 : x ≤ 9223372036854775807) : wrap64 x = x := by unfold wrap64; omega
theorem ev_k {α : Type} {g : Nat → Option α} {r : α} (h : ∀ k, g k = some r) : Ev g r := ⟨0, fun k _ => h k⟩
theorem ev_some {α : Type} {r : α} : Ev (fun _ => some r) r := Ev.now r
theorem wf_i64 {x : Int} (h : (Lit.int .i64 x).wf = true) : -9223372036854775808 ≤ x ∧ x ≤ 9223372036854775807 := by
  simp only [Lit.wf, Bool.and_eq_true, decide_eq_true_eq] at h
  have h1 : IntKind.min .i64 = -9223372036854775808 := by decide
  have h2 : IntKind.max .i64 = 9223372036854775807 := by decide
  omega
theorem wf_u8 {x : Int} (h : (Lit.int .u8 x).wf = true) : 0 ≤ x ∧ x ≤ 255 := by
  simp only [Lit.wf, Bool.and_eq_true, decide_eq_true_eq] at h
  have h1 : IntKind.min .u8 = 0 := by decide
  have h2 : IntKind.max .u8 = 255 := by decide
  omega
theorem spec_in (x lo hi : Int) : spec_l01In.f x lo hi = some (decide (lo ≤ x ∧ x ≤ hi)) := by
  unfold spec_l01In.f
  by_cases h : lo ≤ x <;> simp [h]
theorem impl_in (x lo hi : Int) : impl_between.f x lo hi = some (decide (lo ≤ x ∧ x ≤ hi)) := by
  unfold impl_between.f
  by_cases h : x ≥ lo
  · have h' : lo ≤ x := h
    simp [h, h']
  · have h' : ¬ lo ≤ x := h
    simp [h, h']
/-- The greatest number whose square is at most n. -/
def rootN : Nat → Nat
  | 0 => 0
  | n + 1 => if (rootN n + 1) * (rootN n + 1) ≤ n + 1 then rootN n + 1 else rootN n
theorem rootN_spec (n : Nat) : rootN n * rootN n ≤ n ∧ n < (rootN n + 1) * (rootN n + 1) := by
  induction n with
  | zero => simp [rootN]
  | succ n ih =>
    unfold rootN
    split
    · refine ⟨by assumption, ?_⟩
      have : (rootN n + 1 + 1) * (rootN n + 1 + 1) = (rootN n + 1) * (rootN n + 1) + 2 * (rootN n + 1) + 1 := by
        rw [Nat.add_mul (rootN n + 1) 1, Nat.mul_add]; omega
      omega
    · omega
def root (x : Int) : Int := (rootN x.toNat : Int)
theorem root_nonneg (x : Int) : 0 ≤ root x := by unfold root; omega
theorem root_neg {x : Int} (h : x ≤ 0) : root x = 0 := by
  unfold root
  have : x.toNat = 0 := by omega
  rw [this]; rfl
theorem root_spec {x : Int} (h : 0 ≤ x) : root x * root x ≤ x ∧ x < (root x + 1) * (root x + 1) := by
  have h1 := rootN_spec x.toNat
  unfold root
  have e : ((x.toNat : Nat) : Int) = x := by omega
  constructor
  · have := Int.ofNat_le.mpr h1.1
    rw [e] at this
    simpa using this
  · have := Int.ofNat_lt.mpr h1.2
    rw [e] at this
    simpa using this
theorem sq_le {a b : Int} (h0 : 0 ≤ a) (h : a ≤ b) : a * a ≤ b * b := Int.mul_le_mul h h h0 (by omega)
theorem sq_lt {a b : Int} (h0 : 0 ≤ b) (h : a * a < b * b) : a < b := by
  rcases Int.lt_or_le a b with h1 | h1
  · exact h1
  · have := sq_le h0 h1
    omega
theorem root_eq {x r : Int} (h0 : 0 ≤ r) (h1 : r * r ≤ x) (h2 : x < (r + 1) * (r + 1)) : root x = r := by
  have hx : 0 ≤ x := by have := Int.mul_nonneg h0 h0; omega
  have h3 := root_spec hx
  have h4 := root_nonneg x
  have h5 : root x < r + 1 := sq_lt (by omega) (by omega)
  have h6 : r < root x + 1 := sq_lt (by omega) (by omega)
  omega
theorem root_mono {x y : Int} (h : x ≤ y) : root x ≤ root y := by
  rcases Int.lt_or_le x 0 with h1 | h1
  · rw [root_neg (by omega)]; exact root_nonneg y
  · have h2 := root_spec h1
    have h3 := root_spec (show 0 ≤ y by omega)
    have h4 := root_nonneg y
    have : root x < root y + 1 := sq_lt (by omega) (by omega)
    omega
theorem root_le {x : Int} (h : x ≤ 9223372036854775807) : root x ≤ 3037000499 := by
  rcases Int.lt_or_le x 0 with h1 | h1
  · rw [root_neg (by omega)]; omega
  · have h2 := root_spec h1
    have : root x < 3037000499 + 1 := sq_lt (by omega) (by omega)
    omega
/-- How long a cell takes, from the squares at its borders. -/
def cellU (a b : Int) : Int := if root (100 * a) + root (100 * b) < 20 then 20 else root (100 * a) + root (100 * b)
def cellT (a b : Int) : Int := (10000 + cellU a b - 1) / cellU a b
theorem root_8100 {a : Int} (h : a ≤ 8100) : root (100 * a) ≤ 900 := by
  have : root 810000 = 900 := root_eq (by omega) (by omega) (by omega)
  rw [← this]
  exact root_mono (by omega)
theorem cellU_bd {a b : Int} (ha : a ≤ 8100) (hb : b ≤ 8100) : 20 ≤ cellU a b ∧ cellU a b ≤ 1800 := by
  have h1 := root_8100 ha
  have h2 := root_8100 hb
  unfold cellU
  split <;> omega
theorem cellT_bd {a b : Int} (ha : a ≤ 8100) (hb : b ≤ 8100) : 0 ≤ cellT a b ∧ cellT a b ≤ 500 := by
  have h := cellU_bd ha hb
  unfold cellT
  constructor
  · exact Int.ediv_nonneg (by omega) (by omega)
  · have h1 : (10000 + cellU a b - 1) / cellU a b < 501 := Int.ediv_lt_of_lt_mul (by omega) (by omega)
    omega
theorem impl_root_loop (x : Int) (hx : x ≤ 9223372036854775807) (d : Nat) : ∀ lo hi : Int, 0 ≤ lo → lo < hi → hi ≤ 3037000500 → (hi - lo).toNat ≤ d → (0 ≤ x → lo * lo ≤ x) → (x < 0 → lo = 0) → x < hi * hi → Ev (fun k => impl_Root.l0 k x lo hi) (root x) := by
  induction d with
  | zero => intro lo hi h0 h1 h2 h3; omega
  | succ d ih =>
    intro lo hi h0 h1 h2 h3 h4 h5 h6
    refine Ev.step (fun k => by rw [impl_Root.l0]) ?_
    rw [w64 (x := hi - lo) (by omega) (by omega), w64 (x := lo + hi) (by omega) (by omega)]
    have hm : Int.tdiv (lo + hi) 2 = (lo + hi) / 2 := Int.tdiv_eq_ediv_of_nonneg (by omega)
    rw [hm, w64 (x := (lo + hi) / 2) (by omega) (by omega)]
    generalize hM : (lo + hi) / 2 = M
    by_cases hg : hi - lo > 1
    · simp only [if_pos hg]
      have a1 : lo < M := by omega
      have a2 : M < hi := by omega
      have a3 : M * M ≤ 3037000499 * 3037000499 := sq_le (by omega) (by omega)
      have a4 : 0 ≤ M * M := Int.mul_nonneg (by omega) (by omega)
      rw [w64 (x := M * M) (by omega) (by omega)]
      by_cases hc : M * M ≤ x
      · simp only [if_pos hc]
        exact ih M hi (by omega) a2 h2 (by omega) (fun _ => hc) (fun h => by omega) h6
      · simp only [if_neg hc]
        exact ih lo M h0 a1 (by omega) (by omega) h4 h5 (by omega)
    · simp only [if_neg hg]
      have e : hi = lo + 1 := by omega
      subst e
      rcases Int.lt_or_le x 0 with h7 | h7
      · rw [root_neg (by omega), h5 h7]
        exact ev_some
      · rw [root_eq h0 (h4 h7) h6]
        exact ev_some
theorem impl_root_ev (x : Int) (hx : x ≤ 9223372036854775807) : Ev (fun k => impl_Root.f k x) (root x) := by
  unfold impl_Root.f
  refine impl_root_loop x hx 3037000500 0 3037000500 (by omega) (by omega) (by omega) (by omega) (fun h => by omega) (fun _ => rfl) (by omega)
theorem impl_cell_ev {a b : Int} (ha : 0 ≤ a ∧ a ≤ 8100) (hb : 0 ≤ b ∧ b ≤ 8100) : Ev (fun k => impl_CellTime.f k a b) (cellT a b) := by
  unfold impl_CellTime.f
  simp only [impl_in, Option.bind_some, ha, hb, and_self, decide_true, if_true, Bool.not_true]
  refine Ev.step (fun k => by rw [impl_CellTime.j0]) ?_
  simp only [Bool.false_eq_true, if_false]
  rw [w64 (x := 100 * a) (by omega) (by omega), w64 (x := 100 * b) (by omega) (by omega)]
  refine Ev.bind (impl_root_ev _ (by omega)) ?_
  refine Ev.bind (impl_root_ev _ (by omega)) ?_
  have h1 := root_8100 ha.2
  have h2 := root_8100 hb.2
  have h3 := root_nonneg (100 * a)
  have h4 := root_nonneg (100 * b)
  rw [w64 (x := root (100 * a) + root (100 * b)) (by omega) (by omega)]
  have hm : mx (root (100 * a) + root (100 * b)) 20 = cellU a b := by unfold mx cellU; rfl
  have hu := cellU_bd ha.2 hb.2
  rw [hm, if_neg (by omega), w64 (x := 10000 + cellU a b) (by omega) (by omega), w64 (x := 10000 + cellU a b - 1) (by omega) (by omega), Int.tdiv_eq_ediv_of_nonneg (by omega)]
  have hb := cellT_bd ha.2 hb.2
  have he : (10000 + cellU a b - 1) / cellU a b = cellT a b := rfl
  rw [he, w64 (by omega) (by omega)]
  exact ev_some
theorem impl_cell_no {a b : Int} (h : ¬ ((0 ≤ a ∧ a ≤ 8100) ∧ (0 ≤ b ∧ b ≤ 8100))) : Ev (fun k => impl_CellTime.f k a b) (-1) := by
  unfold impl_CellTime.f
  simp only [impl_in, Option.bind_some]
  by_cases h1 : 0 ≤ a ∧ a ≤ 8100
  · have h2 : ¬ (0 ≤ b ∧ b ≤ 8100) := fun h2 => h ⟨h1, h2⟩
    simp only [h1, h2, and_self, decide_true, decide_false, if_true, Bool.not_false]
    exact Ev.step (fun k => by rw [impl_CellTime.j0]) (by simpa using ev_some)
  · simp only [h1, decide_false, Bool.false_eq_true, if_false]
    exact Ev.step (fun k => by rw [impl_CellTime.j0]) (by simpa using ev_some)
theorem spec_root_loop (x : Int) (hx : x ≤ 9223372036854775807) (hp : 0 < x) (d : Nat) : ∀ lo hi : Int, 0 ≤ lo → lo ≤ hi → hi ≤ 3037000499 → (hi - lo).toNat ≤ d → lo * lo ≤ x → x < (hi + 1) * (hi + 1) → Ev (fun k => spec_Root.l0 k x lo hi) (root x) := by
  induction d with
  | zero =>
    intro lo hi h0 h1 h2 h3 h4 h5
    refine Ev.step (fun k => by rw [spec_Root.l0]) ?_
    have e : hi = lo := by omega
    subst e
    simp only [if_neg (show ¬ hi < hi by omega)]
    rw [root_eq h0 h4 h5]
    exact ev_some
  | succ d ih =>
    intro lo hi h0 h1 h2 h3 h4 h5
    refine Ev.step (fun k => by rw [spec_Root.l0]) ?_
    rw [w64 (x := lo + hi) (by omega) (by omega), w64 (x := lo + hi + 1) (by omega) (by omega)]
    have hm : Int.tdiv (lo + hi + 1) 2 = (lo + hi + 1) / 2 := Int.tdiv_eq_ediv_of_nonneg (by omega)
    rw [hm, w64 (x := (lo + hi + 1) / 2) (by omega) (by omega)]
    generalize hM : (lo + hi + 1) / 2 = M
    by_cases hg : lo < hi
    · simp only [if_pos hg]
      have a1 : lo < M := by omega
      have a2 : M ≤ hi := by omega
      have a3 : M * M ≤ 3037000499 * 3037000499 := sq_le (by omega) (by omega)
      have a4 : 0 ≤ M * M := Int.mul_nonneg (by omega) (by omega)
      rw [w64 (x := M * M) (by omega) (by omega), w64 (x := M - 1) (by omega) (by omega)]
      by_cases hc : M * M ≤ x
      · simp only [if_pos hc]
        exact ih M hi (by omega) a2 h2 (by omega) hc h5
      · simp only [if_neg hc]
        exact ih lo (M - 1) h0 (by omega) (by omega) (by omega) h4 (by rw [show M - 1 + 1 = M by omega]; omega)
    · simp only [if_neg hg]
      have e : hi = lo := by omega
      subst e
      rw [root_eq h0 h4 h5]
      exact ev_some
theorem spec_root_ev (x : Int) (hx : x ≤ 9223372036854775807) : Ev (fun k => spec_Root.f k x) (root x) := by
  unfold spec_Root.f
  by_cases h : x ≤ 0
  · simp only [if_pos h]
    rw [root_neg h]
    exact ev_some
  · simp only [if_neg h]
    exact spec_root_loop x hx (by omega) 3037000499 0 3037000499 (by omega) (by omega) (by omega) (by omega) (by omega) (by omega)
theorem spec_cell_ev {a b : Int} (ha : 0 ≤ a ∧ a ≤ 8100) (hb : 0 ≤ b ∧ b ≤ 8100) : Ev (fun k => spec_CellTime.f k a b) (cellT a b) := by
  unfold spec_CellTime.f
  simp only [spec_in, Option.bind_some, ha, hb, and_self, decide_true, if_true, Bool.not_true]
  refine Ev.step (fun k => by rw [spec_CellTime.j0]) ?_
  simp only [Bool.false_eq_true, if_false]
  rw [w64 (x := 100 * a) (by omega) (by omega), w64 (x := 100 * b) (by omega) (by omega)]
  refine Ev.bind (spec_root_ev _ (by omega)) ?_
  refine Ev.bind (spec_root_ev _ (by omega)) ?_
  have h1 := root_8100 ha.2
  have h2 := root_8100 hb.2
  have h3 := root_nonneg (100 * a)
  have h4 := root_nonneg (100 * b)
  rw [w64 (x := root (100 * a) + root (100 * b)) (by omega) (by omega)]
  by_cases hc : root (100 * a) + root (100 * b) < 20
  · have he : cellT a b = (10000 + 20 - 1) / 20 := by unfold cellT cellU; rw [if_pos hc]
    rw [he]
    simp only [if_pos hc]
    exact ev_some
  · have hu : cellU a b = root (100 * a) + root (100 * b) := by unfold cellU; rw [if_neg hc]
    have hbd := cellU_bd ha.2 hb.2
    simp only [if_neg hc]
    rw [← hu, if_neg (by omega), w64 (x := 10000 + cellU a b) (by omega) (by omega), w64 (x := 10000 + cellU a b - 1) (by omega) (by omega), Int.tdiv_eq_ediv_of_nonneg (by omega)]
    have hb := cellT_bd ha.2 hb.2
    have he : (10000 + cellU a b - 1) / cellU a b = cellT a b := rfl
    rw [he, w64 (by omega) (by omega)]
    exact ev_some
theorem spec_cell_no {a b : Int} (h : ¬ ((0 ≤ a ∧ a ≤ 8100) ∧ (0 ≤ b ∧ b ≤ 8100))) : Ev (fun k => spec_CellTime.f k a b) (-1) := by
  unfold spec_CellTime.f
  simp only [spec_in, Option.bind_some]
  by_cases h1 : 0 ≤ a ∧ a ≤ 8100
  · have h2 : ¬ (0 ≤ b ∧ b ≤ 8100) := fun h2 => h ⟨h1, h2⟩
    simp only [h1, h2, and_self, decide_true, decide_false, if_true, Bool.not_false]
    exact Ev.step (fun k => by rw [spec_CellTime.j0]) (by simpa using ev_some)
  · simp only [h1, decide_false, Bool.false_eq_true, if_false]
    exact Ev.step (fun k => by rw [spec_CellTime.j0]) (by simpa using ev_some)
theorem FnExactCellTime : laws_FnExactCellTime.Pure := by
  intro a b ha hb
  refine Ev.rounds ?_
  unfold laws_FnExactCellTime.f
  by_cases h : (0 ≤ a ∧ a ≤ 8100) ∧ (0 ≤ b ∧ b ≤ 8100)
  · refine Ev.bind (spec_cell_ev h.1 h.2) (Ev.bind (impl_cell_ev h.1 h.2) ?_)
    simp only [if_true]
    exact ev_some
  · refine Ev.bind (spec_cell_no h) (Ev.bind (impl_cell_no h) ?_)
    simp only [if_true]
    exact ev_some

end Go.Proofs.Ytfcljimfpjoioab.Pure
