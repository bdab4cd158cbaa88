/- The law FnExactBoth holds of the program: for every input the call returns true and the arguments read as before; no condition. -/
import Derived.Test.YtgjhlkjfdlkndaaRows
import Derived.Test.YtgjhlkjfdlkndaaPFnExactBothx9
import Derived.Test.YtgjhlkjfdlkndaaRowFnExactBoth
import Derived.Test.YtgjhlkjfdlkndaaPureFnExactBoth
import Derived.Test.YtgjhlkjfdlkndaaVFnExactBothRd
import Derived.WalkKit
import Derived.ProofKit
import Derived.OpenShut
import Derived.ShutString
import Derived.ChangeOld
import Derived.Below
import Derived.SizedLaws
namespace Go.Proofs.Ytgjhlkjfdlkndaa.fnExactBoth
open Go.ChangeShapes Go.WideShapes Go.ChangeAt Go.RowKit Go.Proofs.Ytgjhlkjfdlkndaa.Rd Go.Proofs.YtgjhlkjfdlkndaaW.PrintWords Go.Proofs.Ytgjhlkjfdlkndaa.PFnExactBoth
open Go.ChangeMaps (open_string shut_string)
set_option linter.unusedVariables false
set_option linter.unusedSimpArgs false
theorem own : ownKnob Try.prog.godebug = none := by kernel_rfl
theorem laidOut : laidOutB Try.prog = true := by kernel_rfl
set_option maxRecDepth 100000 in
theorem lifted (os : Os) (started : os.Started) (H : Type) (enc : TypeId × Value → H) :
    ReturnsInHanded {} Try.checked os 9 .any (Rows.fnExactBothSpec.pre6 enc Try.prog Try.f9 Rows.fnExactBothRow.domain false) (Rows.fnExactBothSpec.post enc Try.prog Try.f9 false true false false) := by
  refine returnsInHanded_of_change_sized (C := Try.checked) own started (by kernel_rfl) Try.func9
    (ChangeSpec.witness6 (enc := enc) (C := Try.checked) false ⟨#[], #[.agg #[.int .i64 0, .int .i64 0, .int .i64 0, .slice none 0 0, .slice none 0 0], .agg #[.int .i64 0, .int .i64 0, .int .i64 0, .slice none 0 0, .slice none 0 0]], []⟩ 8 (by kernel_rfl) (by kernel_rfl) (by kernel_rfl) (by kernel_rfl)) ?_
  intro W base args ds gs before hval0 hW hcnd hsz0 _
  have hval : ∀ (j : Nat) t v, Try.f9.params[j]? = some t → args[j]? = some v → Value.okWide Try.prog W .any base t v := hval0
  have hW' := hW
  obtain ⟨p, q, hA0, hV, rfl, hfz, hnd⟩ := hW
  have hA : DataW.TrodAll enc Try.prog W 0 (fun _ => true) true Try.f9.params.toList args.toList ds p := hA0
  rw [Try.params9] at hA hval
  obtain ⟨v0, vs0, d0, ds0, p0, q0, hargs, rfl, rfl, h0, r0⟩ := trodAll_cons hA
  obtain ⟨v1, vs1, d1, ds1, p1, q1, rfl, rfl, rfl, h1, r1⟩ := trodAll_cons r0
  obtain ⟨rfl, rfl, rfl⟩ := trodAll_nil r1
  obtain rfl : args = #[v0, v1] := by cases args; simp_all
  obtain ⟨rfl, rfl⟩ := trodVars_none hV
  have kk0 := h0
  have lt0 : ∀ x ∈ p0, x.block < W.heap.size := by obtain ⟨m, hm⟩ := kk0; exact DataW.trod_lt m _ _ _ hm
  obtain ⟨vl0, rfl, fu0, hf0⟩ := agg_of Try.underlying24 (hval 0 24 v0 rfl rfl) h0
  obtain ⟨x0, hK0, ok0⟩ := (rd_struct Try.underlying24 (by kernel_rfl) (by kernel_rfl) (rdf_cons (rd_int Try.underlying3) (rdf_cons (rd_int Try.underlying3) (rdf_cons (rd_int Try.underlying3) (rdf_cons (rd_slice (d := (Kd.int .i64)) Try.underlying22 (by kernel_rfl) (rd_int Try.underlying3)) (rdf_one (rd_slice (d := (Kd.int .i64)) Try.underlying22 (by kernel_rfl) (rd_int Try.underlying3)))))))) H enc W 0 _ _ fu0 _ _ hf0
  obtain ⟨_, _, rfl, rfl, ⟨_, _, rfl, rfl, ⟨_, _, rfl, rfl, ⟨_, _, rfl, ⟨A0_3, c0_3, rfl, hl0_3, hC0_3⟩, ⟨A0_4, c0_4, rfl, hl0_4, hC0_4⟩⟩⟩⟩⟩ := hK0
  obtain ⟨o0_0, o0_1, o0_2, o0_3, o0_4⟩ := ok0
  have kk1 := h1
  have lt1 : ∀ x ∈ p1, x.block < W.heap.size := by obtain ⟨m, hm⟩ := kk1; exact DataW.trod_lt m _ _ _ hm
  obtain ⟨vl1, rfl, fu1, hf1⟩ := agg_of Try.underlying24 (hval 1 24 v1 rfl rfl) h1
  obtain ⟨x1, hK1, ok1⟩ := (rd_struct Try.underlying24 (by kernel_rfl) (by kernel_rfl) (rdf_cons (rd_int Try.underlying3) (rdf_cons (rd_int Try.underlying3) (rdf_cons (rd_int Try.underlying3) (rdf_cons (rd_slice (d := (Kd.int .i64)) Try.underlying22 (by kernel_rfl) (rd_int Try.underlying3)) (rdf_one (rd_slice (d := (Kd.int .i64)) Try.underlying22 (by kernel_rfl) (rd_int Try.underlying3)))))))) H enc W 0 _ _ fu1 _ _ hf1
  obtain ⟨_, _, rfl, rfl, ⟨_, _, rfl, rfl, ⟨_, _, rfl, rfl, ⟨_, _, rfl, ⟨A1_3, c1_3, rfl, hl1_3, hC1_3⟩, ⟨A1_4, c1_4, rfl, hl1_4, hC1_4⟩⟩⟩⟩⟩ := hK1
  obtain ⟨o1_0, o1_1, o1_2, o1_3, o1_4⟩ := ok1
  have h := Pure.FnExactBoth x0.1 x0.2.1 x0.2.2.1 x0.2.2.2.1 x0.2.2.2.2 x1.1 x1.2.1 x1.2.2.1 x1.2.2.2.1 x1.2.2.2.2 o0_0 o0_1 o0_2 o0_3 o0_4 o1_0 o1_1 o1_2 o1_3 o1_4
  obtain ⟨k, h⟩ := h
  clear hA0 hval0 hsz0
  refine (laws_FnExactBoth.calls k x0.1 x0.2.1 x0.2.2.1 A0_3 c0_3 x0.2.2.2.1 A0_4 c0_4 x0.2.2.2.2 x1.1 x1.2.1 x1.2.2.1 A1_3 c1_3 x1.2.2.2.1 A1_4 c1_4 x1.2.2.2.2 W hC0_3 hl0_3 hC0_4 hl0_4 hC1_3 hl1_3 hC1_4 hl1_4 h).mono fun e W' ⟨he, bel0⟩ => ?_
  have bel : Below W.heap.size W W' := bel0
  subst he
  exact ⟨_, rfl, _, _, _, [], _, [], hW', trodAll_mk1 (shut_bool Try.underlying4 _), (trodAll_cons_mk (Below.trod laidOut (by kernel_rfl) (of_decide_eq_true (by kernel_rfl)) kk0 bel lt0) (trodAll_cons_mk (Below.trod laidOut (by kernel_rfl) (of_decide_eq_true (by kernel_rfl)) kk1 bel lt1) trodAll_mk0)), rfl, bel.frame _, fun h => by cases h⟩
theorem over : Rows.fnExactBothRow.holds Try.pinned (OpenSpec.ofChange Rows.fnExactBothSpec) :=
  OpenClaim.holds_of_wide 9 Try.f9 rfl rfl rfl rfl rfl rfl rfl ⟨rfl, rfl, rfl, rfl, rfl⟩ rfl rfl rfl rfl rfl (by kernel_rfl) Try.func9 (by kernel_rfl)
    (of_decide_eq_true (by kernel_rfl)) (by unfold Func.isWrapper; first | (rw [if_pos (by decide +kernel)]; kernel_rfl) | (rw [if_neg (by decide +kernel)]; exact ⟨rfl, rfl⟩))
    (fun os started H enc _ => lifted os started H enc)
theorem proved : Rows.FnExactBothSaid := over
#print axioms proved
end Go.Proofs.Ytgjhlkjfdlkndaa.fnExactBoth
namespace Go.Proofs.Ytgjhlkjfdlkndaa
/-- The row, under a short name, for the claim. -/
theorem fnExactBoth_holds : Rows.FnExactBothSaid := fnExactBoth.proved
end Go.Proofs.Ytgjhlkjfdlkndaa
