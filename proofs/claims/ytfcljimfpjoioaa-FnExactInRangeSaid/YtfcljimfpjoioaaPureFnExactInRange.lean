/- The program's InRange returns what the reference's returns, for all numbers. -/
import Derived.Test.YtfcljimfpjoioaaRowFnExactInRange
namespace Go.Proofs.Ytfcljimfpjoioaa.Pure
open Go.RowKit Go.Proofs.Ytfcljimfpjoioaa.PFnExactInRange Go.Proofs.YtfcljimfpjoioaaW.PrintWords Go.Proofs.YtfcljimfpjoioaaW.PrintLast Go.Proofs.YtfcljimfpjoioaaW.PrintMore
set_option linter.unusedVariables false
set_option linter.unusedSimpArgs false
theorem FnExactInRange : laws_FnExactInRange.Pure := by
  intro a b c _ _ _
  have e : impl_InRange.f a b c = spec_InRange.f a b c := rfl
  have h : ∃ r, spec_InRange.f a b c = some r := by
    unfold spec_InRange.f; split <;> exact ⟨_, rfl⟩
  obtain ⟨r, hr⟩ := h
  unfold laws_FnExactInRange.f
  rw [e, hr]
  simp

end Go.Proofs.Ytfcljimfpjoioaa.Pure
