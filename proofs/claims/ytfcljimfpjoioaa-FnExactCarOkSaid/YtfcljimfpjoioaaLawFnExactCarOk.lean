/- The law FnExactCarOk holds of the program: for every input the call returns true and the arguments read as before; no condition. -/
import Derived.Test.YtfcljimfpjoioaaRows
import Derived.Test.YtfcljimfpjoioaaPFnExactCarOkx1
import Derived.Test.YtfcljimfpjoioaaRowFnExactCarOk
import Derived.Test.YtfcljimfpjoioaaPureFnExactCarOk
import Derived.Test.YtfcljimfpjoioaaRd
import Derived.WalkKit
import Derived.ProofKit
import Derived.OpenShut
import Derived.ShutString
import Derived.ChangeOld
import Derived.Below
import Derived.SizedLaws
namespace Go.Proofs.Ytfcljimfpjoioaa.fnExactCarOk
open Go.ChangeShapes Go.WideShapes Go.ChangeAt Go.RowKit Go.Proofs.Ytfcljimfpjoioaa.Rd Go.Proofs.YtfcljimfpjoioaaW.PrintWords Go.Proofs.Ytfcljimfpjoioaa.PFnExactCarOk
open Go.ChangeMaps (open_string shut_string)
set_option linter.unusedVariables false
set_option linter.unusedSimpArgs false
theorem own : ownKnob Try.prog.godebug = none := by kernel_rfl
theorem laidOut : laidOutB Try.prog = true := by kernel_rfl
set_option maxRecDepth 100000 in
theorem lifted (os : Os) (started : os.Started) (H : Type) (enc : TypeId × Value → H) :
    ReturnsInHanded {} Try.checked os 7 .any (Rows.fnExactCarOkSpec.pre6 enc Try.prog Try.f7 Rows.fnExactCarOkRow.domain false) (Rows.fnExactCarOkSpec.post enc Try.prog Try.f7 false true false false) := by
  refine returnsInHanded_of_change_sized (C := Try.checked) own started (by kernel_rfl) Try.func7
    (ChangeSpec.witness6 (enc := enc) (C := Try.checked) false ⟨#[], #[.agg #[.float .f64 0, .float .f64 0, .float .f64 0, .float .f64 0]], []⟩ 8 (by kernel_rfl) (by kernel_rfl) (by kernel_rfl) (by kernel_rfl)) ?_
  intro W base args ds gs before hval0 hW hcnd hsz0 _
  have hval : ∀ (j : Nat) t v, Try.f7.params[j]? = some t → args[j]? = some v → Value.okWide Try.prog W .any base t v := hval0
  have hW' := hW
  obtain ⟨p, q, hA0, hV, rfl, hfz, hnd⟩ := hW
  have hA : DataW.TrodAll enc Try.prog W 0 (fun _ => true) true Try.f7.params.toList args.toList ds p := hA0
  rw [Try.params7] at hA hval
  obtain ⟨v0, vs0, d0, ds0, p0, q0, hargs, rfl, rfl, h0, r0⟩ := trodAll_cons hA
  obtain ⟨rfl, rfl, rfl⟩ := trodAll_nil r0
  obtain rfl : args = #[v0] := by cases args; simp_all
  obtain ⟨rfl, rfl⟩ := trodVars_none hV
  have kk0 := h0
  have lt0 : ∀ x ∈ p0, x.block < W.heap.size := by obtain ⟨m, hm⟩ := kk0; exact DataW.trod_lt m _ _ _ hm
  obtain ⟨vl0, rfl, fu0, hf0⟩ := agg_of Try.underlying38 (hval 0 38 v0 rfl rfl) h0
  obtain ⟨x0, hK0, ok0⟩ := (rd_struct Try.underlying38 (by kernel_rfl) (by kernel_rfl) (rdf_cons (rd_f64 Kd.f64 (fun _ _ => rfl) Try.underlying23) (rdf_cons (rd_f64 Kd.f64 (fun _ _ => rfl) Try.underlying23) (rdf_cons (rd_f64 Kd.f64 (fun _ _ => rfl) Try.underlying23) (rdf_one (rd_f64 Kd.f64 (fun _ _ => rfl) Try.underlying23)))))) H enc W 0 _ _ fu0 _ _ hf0
  obtain ⟨_, _, rfl, rfl, ⟨_, _, rfl, rfl, ⟨_, _, rfl, rfl, rfl⟩⟩⟩ := hK0
  obtain ⟨o0_0, o0_1, o0_2, o0_3⟩ := ok0
  have h := Pure.FnExactCarOk x0.1 x0.2.1 x0.2.2.1 x0.2.2.2 o0_0 o0_1 o0_2 o0_3
  clear hA0 hval0 hsz0
  refine (laws_FnExactCarOk.calls x0.1 x0.2.1 x0.2.2.1 x0.2.2.2 true W  h).mono fun e W' ⟨he, bel0⟩ => ?_
  have bel : Below W.heap.size W W' := bel0
  subst he
  exact ⟨_, rfl, _, _, _, [], _, [], hW', trodAll_mk1 (shut_bool Try.underlying4 _), (trodAll_cons_mk (Below.trod laidOut (by kernel_rfl) (of_decide_eq_true (by kernel_rfl)) kk0 bel lt0) trodAll_mk0), rfl, bel.frame _, fun h => by cases h⟩
theorem over : Rows.fnExactCarOkRow.holds Try.pinned (OpenSpec.ofChange Rows.fnExactCarOkSpec) :=
  OpenClaim.holds_of_wide 7 Try.f7 rfl rfl rfl rfl rfl rfl rfl ⟨rfl, rfl, rfl, rfl, rfl⟩ rfl rfl rfl rfl rfl (by kernel_rfl) Try.func7 (by kernel_rfl)
    (of_decide_eq_true (by kernel_rfl)) (by unfold Func.isWrapper; first | (rw [if_pos (by decide +kernel)]; kernel_rfl) | (rw [if_neg (by decide +kernel)]; exact ⟨rfl, rfl⟩))
    (fun os started H enc _ => lifted os started H enc)
theorem proved : Rows.FnExactCarOkSaid := over
#print axioms proved
end Go.Proofs.Ytfcljimfpjoioaa.fnExactCarOk
namespace Go.Proofs.Ytfcljimfpjoioaa
/-- The row, under a short name, for the claim. -/
theorem fnExactCarOk_holds : Rows.FnExactCarOkSaid := fnExactCarOk.proved
end Go.Proofs.Ytfcljimfpjoioaa
