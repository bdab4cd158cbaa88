/- The law FnBoth holds of the program: for every input the call returns true and the arguments read as before; no condition. -/
import Derived.Test.YtgjhlkjfdlkndaaRows
import Derived.Test.YtgjhlkjfdlkndaaPFnBothx11
import Derived.Test.YtgjhlkjfdlkndaaRowFnBoth
import Derived.Test.YtgjhlkjfdlkndaaPureFnBoth
import Derived.Test.YtgjhlkjfdlkndaaVFnBothRd
import Derived.WalkKit
import Derived.ProofKit
import Derived.OpenShut
import Derived.ShutString
import Derived.ChangeOld
import Derived.Below
import Derived.SizedLaws
namespace Go.Proofs.Ytgjhlkjfdlkndaa.fnBoth
open Go.ChangeShapes Go.WideShapes Go.ChangeAt Go.RowKit Go.Proofs.Ytgjhlkjfdlkndaa.Rd Go.Proofs.YtgjhlkjfdlkndaaW.PrintWords Go.Proofs.Ytgjhlkjfdlkndaa.PFnBoth
open Go.ChangeMaps (open_string shut_string)
set_option linter.unusedVariables false
set_option linter.unusedSimpArgs false
theorem own : ownKnob Try.prog.godebug = none := by kernel_rfl
theorem laidOut : laidOutB Try.prog = true := by kernel_rfl
set_option maxRecDepth 100000 in
theorem lifted (os : Os) (started : os.Started) (H : Type) (enc : TypeId × Value → H) :
    ReturnsInHanded {} Try.checked os 10 .any (Rows.fnBothSpec.pre6 enc Try.prog Try.f10 Rows.fnBothRow.domain false) (Rows.fnBothSpec.post enc Try.prog Try.f10 false true false false) := by
  refine returnsInHanded_of_change_sized (C := Try.checked) own started (by kernel_rfl) Try.func10
    (ChangeSpec.witness6 (enc := enc) (C := Try.checked) false ⟨#[], #[.slice none 0 0], []⟩ 8 (by kernel_rfl) (by kernel_rfl) (by kernel_rfl) (by kernel_rfl)) ?_
  intro W base args ds gs before hval0 hW hcnd hsz0 _
  have hval : ∀ (j : Nat) t v, Try.f10.params[j]? = some t → args[j]? = some v → Value.okWide Try.prog W .any base t v := hval0
  have hW' := hW
  obtain ⟨p, q, hA0, hV, rfl, hfz, hnd⟩ := hW
  have hA : DataW.TrodAll enc Try.prog W 0 (fun _ => true) true Try.f10.params.toList args.toList ds p := hA0
  rw [Try.params10] at hA hval
  obtain ⟨v0, vs0, d0, ds0, p0, q0, hargs, rfl, rfl, h0, r0⟩ := trodAll_cons hA
  obtain ⟨rfl, rfl, rfl⟩ := trodAll_nil r0
  obtain rfl : args = #[v0] := by cases args; simp_all
  obtain ⟨rfl, rfl⟩ := trodVars_none hV
  have kk0 := h0
  have lt0 : ∀ x ∈ p0, x.block < W.heap.size := by obtain ⟨m, hm⟩ := kk0; exact DataW.trod_lt m _ _ _ hm
  obtain ⟨fu0, hf0⟩ := slice_of Try.underlying36 (hval 0 36 v0 rfl rfl) h0
  obtain ⟨l0, ⟨A0, c0, he0, hl0, hC0⟩, ok0⟩ := (rd_slice (d := (Kd.int .u8)) Try.underlying36 (by kernel_rfl) (rd_int Try.underlying5)) H enc W 0 _ _ fu0 _ _ hf0
  obtain rfl : v0 = .slice A0 l0.length c0 := (List.cons.inj he0).1
  have h := Pure.FnBoth l0 ok0
  obtain ⟨k, h⟩ := h
  clear hA0 hval0 hsz0
  refine (laws_FnBoth.calls k A0 c0 l0 W hC0 hl0 h).mono fun e W' ⟨he, bel0⟩ => ?_
  have bel : Below W.heap.size W W' := bel0
  subst he
  exact ⟨_, rfl, _, _, _, [], _, [], hW', trodAll_mk1 (shut_bool Try.underlying4 _), (trodAll_cons_mk (Below.trod laidOut (by kernel_rfl) (of_decide_eq_true (by kernel_rfl)) kk0 bel lt0) trodAll_mk0), rfl, bel.frame _, fun h => by cases h⟩
theorem over : Rows.fnBothRow.holds Try.pinned (OpenSpec.ofChange Rows.fnBothSpec) :=
  OpenClaim.holds_of_wide 10 Try.f10 rfl rfl rfl rfl rfl rfl rfl ⟨rfl, rfl, rfl, rfl, rfl⟩ rfl rfl rfl rfl rfl (by kernel_rfl) Try.func10 (by kernel_rfl)
    (of_decide_eq_true (by kernel_rfl)) (by unfold Func.isWrapper; first | (rw [if_pos (by decide +kernel)]; kernel_rfl) | (rw [if_neg (by decide +kernel)]; exact ⟨rfl, rfl⟩))
    (fun os started H enc _ => lifted os started H enc)
theorem proved : Rows.FnBothSaid := over
#print axioms proved
end Go.Proofs.Ytgjhlkjfdlkndaa.fnBoth
namespace Go.Proofs.Ytgjhlkjfdlkndaa
/-- The row, under a short name, for the claim. -/
theorem fnBoth_holds : Rows.FnBothSaid := fnBoth.proved
end Go.Proofs.Ytgjhlkjfdlkndaa
