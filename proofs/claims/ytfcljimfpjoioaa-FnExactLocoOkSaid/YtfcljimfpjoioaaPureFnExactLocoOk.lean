/- The program's LocoOk returns what the reference's returns, for all engines. -/
import Derived.Test.YtfcljimfpjoioaaRowFnExactLocoOk
namespace Go.Proofs.Ytfcljimfpjoioaa.Pure
open Go.RowKit Go.Proofs.Ytfcljimfpjoioaa.PFnExactLocoOk Go.Proofs.YtfcljimfpjoioaaW.PrintWords Go.Proofs.YtfcljimfpjoioaaW.PrintLast Go.Proofs.YtfcljimfpjoioaaW.PrintMore
set_option linter.unusedVariables false
set_option linter.unusedSimpArgs false
def inR (a b c : Nat) : Bool := fle b a && fle a c
theorem spec_inR (a b c : Nat) : spec_InRange.f a b c = some (inR a b c) := by
  unfold spec_InRange.f inR
  cases fle b a <;> rfl
theorem impl_inR (a b c : Nat) : impl_InRange.f a b c = some (inR a b c) := spec_inR a b c
theorem FnExactLocoOk : laws_FnExactLocoOk.Pure := by
  intro a b _ _
  unfold laws_FnExactLocoOk.f laws_toLoco.f
  have e : impl_LocoOk.f a b = spec_LocoOk.f a b := by
    unfold impl_LocoOk.f spec_LocoOk.f
    simp only [spec_inR, impl_inR]
  have h : ∃ r, spec_LocoOk.f a b = some r := by
    unfold spec_LocoOk.f
    simp only [spec_inR, Option.bind_some]
    split <;> exact ⟨_, rfl⟩
  obtain ⟨r, hr⟩ := h
  simp only [Option.bind_some, e, hr]
  simp

end Go.Proofs.Ytfcljimfpjoioaa.Pure
