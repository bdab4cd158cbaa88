/- The program's MotorOk returns what the reference's returns, for all motors. -/
import Derived.Test.YtfcljimfpjoioaaRowFnExactMotorOk
namespace Go.Proofs.Ytfcljimfpjoioaa.Pure
open Go.RowKit Go.Proofs.Ytfcljimfpjoioaa.PFnExactMotorOk Go.Proofs.YtfcljimfpjoioaaW.PrintWords Go.Proofs.YtfcljimfpjoioaaW.PrintLast Go.Proofs.YtfcljimfpjoioaaW.PrintMore
set_option linter.unusedVariables false
set_option linter.unusedSimpArgs false
theorem w64 {x : Int} (h0 : -9223372036854775808 ≤ x) (h1 : x ≤ 9223372036854775807) : wrap64 x = x := by unfold wrap64; omega
theorem ev_k {α : Type} {g : Nat → Option α} {r : α} (h : ∀ k, g k = some r) : Ev g r := ⟨0, fun k _ => h k⟩
theorem ev_some {α : Type} {r : α} : Ev (fun _ => some r) r := Ev.now r
theorem wf_i64 {x : Int} (h : (Lit.int .i64 x).wf = true) : -9223372036854775808 ≤ x ∧ x ≤ 9223372036854775807 := by
  simp only [Lit.wf, Bool.and_eq_true, decide_eq_true_eq] at h
  have h1 : IntKind.min .i64 = -9223372036854775808 := by decide
  have h2 : IntKind.max .i64 = 9223372036854775807 := by decide
  omega
theorem wf_u8 {x : Int} (h : (Lit.int .u8 x).wf = true) : 0 ≤ x ∧ x ≤ 255 := by
  simp only [Lit.wf, Bool.and_eq_true, decide_eq_true_eq] at h
  have h1 : IntKind.min .u8 = 0 := by decide
  have h2 : IntKind.max .u8 = 255 := by decide
  omega
theorem spec_in (x lo hi : Int) : spec_l01In.f x lo hi = some (decide (lo ≤ x ∧ x ≤ hi)) := by
  unfold spec_l01In.f
  by_cases h : lo ≤ x <;> simp [h]
theorem impl_in (x lo hi : Int) : impl_between.f x lo hi = some (decide (lo ≤ x ∧ x ≤ hi)) := by
  unfold impl_between.f
  by_cases h : x ≥ lo
  · have h' : lo ≤ x := h
    simp [h, h']
  · have h' : ¬ lo ≤ x := h
    simp [h, h']
theorem FnExactMotorOk : laws_FnExactMotorOk.Pure := by
  intro a b c ha hb hc
  unfold laws_FnExactMotorOk.f laws_toMotor.f spec_MotorOk.f impl_MotorOk.f
  simp only [spec_in, impl_in, Option.bind_some]
  by_cases h1 : 1 ≤ a ∧ a ≤ 200 <;> by_cases h2 : 1 ≤ b ∧ b ≤ 400 <;> by_cases h3 : 1 ≤ c ∧ c ≤ 90 <;> simp [h1, h2, h3]

end Go.Proofs.Ytfcljimfpjoioaa.Pure
