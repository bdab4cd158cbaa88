/- The program's CarOk returns what the reference's returns, for all cars. -/
import Derived.Test.YtfcljimfpjoioaaRowFnExactCarOk
namespace Go.Proofs.Ytfcljimfpjoioaa.Pure
open Go.RowKit Go.Proofs.Ytfcljimfpjoioaa.PFnExactCarOk Go.Proofs.YtfcljimfpjoioaaW.PrintWords Go.Proofs.YtfcljimfpjoioaaW.PrintLast Go.Proofs.YtfcljimfpjoioaaW.PrintMore
set_option linter.unusedVariables false
set_option linter.unusedSimpArgs false
def inR (a b c : Nat) : Bool := fle b a && fle a c
theorem spec_inR (a b c : Nat) : spec_InRange.f a b c = some (inR a b c) := by
  unfold spec_InRange.f inR
  cases fle b a <;> rfl
theorem impl_inR (a b c : Nat) : impl_InRange.f a b c = some (inR a b c) := spec_inR a b c
theorem FnExactCarOk : laws_FnExactCarOk.Pure := by
  intro a b c d _ _ _ _
  unfold laws_FnExactCarOk.f laws_toCar.f
  have e : impl_CarOk.f a b c d = spec_CarOk.f a b c d := by
    unfold impl_CarOk.f spec_CarOk.f
    simp only [spec_inR, impl_inR]
  have h : ∃ r, spec_CarOk.f a b c d = some r := by
    unfold spec_CarOk.f
    simp only [spec_inR, Option.bind_some]
    split
    · split
      · split
        · exact ⟨_, rfl⟩
        · exact ⟨_, rfl⟩
      · exact ⟨_, rfl⟩
    · exact ⟨_, rfl⟩
  obtain ⟨r, hr⟩ := h
  simp only [Option.bind_some, e, hr]
  simp

end Go.Proofs.Ytfcljimfpjoioaa.Pure
