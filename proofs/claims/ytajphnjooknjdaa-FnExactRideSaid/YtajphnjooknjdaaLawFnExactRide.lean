/- The law FnExactRide holds of the program: for every input the call returns true and the arguments read as before; no condition. -/
import Derived.Test.YtajphnjooknjdaaRows
import Derived.Test.YtajphnjooknjdaaPFnExactRidex7
import Derived.Test.YtajphnjooknjdaaRowFnExactRide
import Derived.Test.YtajphnjooknjdaaPureFnExactRide
import Derived.Test.YtajphnjooknjdaaRd
import Derived.WalkKit
import Derived.ProofKit
import Derived.OpenShut
import Derived.ShutString
import Derived.ChangeOld
import Derived.Below
import Derived.SizedLaws
namespace Go.Proofs.Ytajphnjooknjdaa.fnExactRide
open Go.ChangeShapes Go.WideShapes Go.ChangeAt Go.RowKit Go.Proofs.Ytajphnjooknjdaa.Rd Go.Proofs.YtajphnjooknjdaaW.PrintWords Go.Proofs.Ytajphnjooknjdaa.PFnExactRide
open Go.ChangeMaps (open_string shut_string)
set_option linter.unusedVariables false
set_option linter.unusedSimpArgs false
theorem own : ownKnob Try.prog.godebug = none := by kernel_rfl
theorem laidOut : laidOutB Try.prog = true := by kernel_rfl
set_option maxRecDepth 100000 in
theorem lifted (os : Os) (started : os.Started) (H : Type) (enc : TypeId × Value → H) :
    ReturnsInHanded {} Try.checked os 5 .any (Rows.fnExactRideSpec.pre6 enc Try.prog Try.f5 Rows.fnExactRideRow.domain false) (Rows.fnExactRideSpec.post enc Try.prog Try.f5 false true false false) := by
  refine returnsInHanded_of_change_sized (C := Try.checked) own started (by kernel_rfl) Try.func5
    (ChangeSpec.witness6 (enc := enc) (C := Try.checked) false ⟨#[], #[.agg #[.float .f64 0, .float .f64 0], .slice none 0 0, .float .f64 0, .slice none 0 0, .float .f64 0], []⟩ 8 (by kernel_rfl) (by kernel_rfl) (by kernel_rfl) (by kernel_rfl)) ?_
  intro W base args ds gs before hval0 hW hcnd hsz0 _
  have hval : ∀ (j : Nat) t v, Try.f5.params[j]? = some t → args[j]? = some v → Value.okWide Try.prog W .any base t v := hval0
  have hW' := hW
  obtain ⟨p, q, hA0, hV, rfl, hfz, hnd⟩ := hW
  have hA : DataW.TrodAll enc Try.prog W 0 (fun _ => true) true Try.f5.params.toList args.toList ds p := hA0
  rw [Try.params5] at hA hval
  obtain ⟨v0, vs0, d0, ds0, p0, q0, hargs, rfl, rfl, h0, r0⟩ := trodAll_cons hA
  obtain ⟨v1, vs1, d1, ds1, p1, q1, rfl, rfl, rfl, h1, r1⟩ := trodAll_cons r0
  obtain ⟨v2, vs2, d2, ds2, p2, q2, rfl, rfl, rfl, h2, r2⟩ := trodAll_cons r1
  obtain ⟨v3, vs3, d3, ds3, p3, q3, rfl, rfl, rfl, h3, r3⟩ := trodAll_cons r2
  obtain ⟨v4, vs4, d4, ds4, p4, q4, rfl, rfl, rfl, h4, r4⟩ := trodAll_cons r3
  obtain ⟨rfl, rfl, rfl⟩ := trodAll_nil r4
  obtain rfl : args = #[v0, v1, v2, v3, v4] := by cases args; simp_all
  obtain ⟨rfl, rfl⟩ := trodVars_none hV
  have kk0 := h0
  have lt0 : ∀ x ∈ p0, x.block < W.heap.size := by obtain ⟨m, hm⟩ := kk0; exact DataW.trod_lt m _ _ _ hm
  obtain ⟨vl0, rfl, fu0, hf0⟩ := agg_of Try.underlying24 (hval 0 24 v0 rfl rfl) h0
  obtain ⟨x0, hK0, ok0⟩ := (rd_struct Try.underlying24 (by kernel_rfl) (by kernel_rfl) (rdf_cons (rd_f64 Kd.f64 (fun _ _ => rfl) Try.underlying22) (rdf_one (rd_f64 Kd.f64 (fun _ _ => rfl) Try.underlying22)))) H enc W 0 _ _ fu0 _ _ hf0
  obtain ⟨_, _, rfl, rfl, rfl⟩ := hK0
  obtain ⟨o0_0, o0_1⟩ := ok0
  have kk1 := h1
  have lt1 : ∀ x ∈ p1, x.block < W.heap.size := by obtain ⟨m, hm⟩ := kk1; exact DataW.trod_lt m _ _ _ hm
  obtain ⟨fu1, hf1⟩ := slice_of Try.underlying33 (hval 1 33 v1 rfl rfl) h1
  obtain ⟨l1, ⟨A1, c1, he1, hl1, hC1⟩, ok1⟩ := (rd_slice (d := k63) Try.underlying33 (by kernel_rfl) (show Rd Try.prog 63 k63 _ from rd_iso (fun x : S63 => (x.f0, x.f1, x.f2, x.f3)) (fun p => ⟨p.1, p.2.1, p.2.2.1, p.2.2.2⟩) (fun _ => rfl) (rd_struct Try.underlying63 (by kernel_rfl) (by kernel_rfl) (rdf_cons (rd_f64 Kd.f64 (fun _ _ => rfl) Try.underlying22) (rdf_cons (rd_f64 Kd.f64 (fun _ _ => rfl) Try.underlying22) (rdf_cons (rd_f64 Kd.f64 (fun _ _ => rfl) Try.underlying22) (rdf_one (rd_f64 Kd.f64 (fun _ _ => rfl) Try.underlying22)))))))) H enc W 0 _ _ fu1 _ _ hf1
  obtain rfl : v1 = .slice A1 l1.length c1 := (List.cons.inj he1).1
  have kk2 := h2
  have lt2 : ∀ x ∈ p2, x.block < W.heap.size := by obtain ⟨m, hm⟩ := kk2; exact DataW.trod_lt m _ _ _ hm
  obtain ⟨a2, rfl, w2⟩ := f64_of Try.underlying22 (hval 2 22 v2 rfl rfl) h2
  have kk3 := h3
  have lt3 : ∀ x ∈ p3, x.block < W.heap.size := by obtain ⟨m, hm⟩ := kk3; exact DataW.trod_lt m _ _ _ hm
  obtain ⟨fu3, hf3⟩ := slice_of Try.underlying25 (hval 3 25 v3 rfl rfl) h3
  obtain ⟨l3, ⟨A3, c3, he3, hl3, hC3⟩, ok3⟩ := (rd_slice (d := Kd.f64) Try.underlying25 (by kernel_rfl) (rd_f64 Kd.f64 (fun _ _ => rfl) Try.underlying22)) H enc W 0 _ _ fu3 _ _ hf3
  obtain rfl : v3 = .slice A3 l3.length c3 := (List.cons.inj he3).1
  have kk4 := h4
  have lt4 : ∀ x ∈ p4, x.block < W.heap.size := by obtain ⟨m, hm⟩ := kk4; exact DataW.trod_lt m _ _ _ hm
  obtain ⟨a4, rfl, w4⟩ := f64_of Try.underlying22 (hval 4 22 v4 rfl rfl) h4
  have h := Pure.FnExactRide x0.1 x0.2 l1 a2 l3 a4 o0_0 o0_1 ok1 w2 ok3 w4
  obtain ⟨k, h⟩ := h
  clear hA0 hval0 hsz0
  refine (laws_FnExactRide.calls k x0.1 x0.2 A1 c1 l1 a2 A3 c3 l3 a4 W hC1 hl1 hC3 hl3 h).mono fun e W' ⟨he, bel0⟩ => ?_
  have bel : Below W.heap.size W W' := bel0
  subst he
  exact ⟨_, rfl, _, _, _, [], _, [], hW', trodAll_mk1 (shut_bool Try.underlying4 _), (trodAll_cons_mk (Below.trod laidOut (by kernel_rfl) (of_decide_eq_true (by kernel_rfl)) kk0 bel lt0) (trodAll_cons_mk (Below.trod laidOut (by kernel_rfl) (of_decide_eq_true (by kernel_rfl)) kk1 bel lt1) (trodAll_cons_mk (Below.trod laidOut (by kernel_rfl) (of_decide_eq_true (by kernel_rfl)) kk2 bel lt2) (trodAll_cons_mk (Below.trod laidOut (by kernel_rfl) (of_decide_eq_true (by kernel_rfl)) kk3 bel lt3) (trodAll_cons_mk (Below.trod laidOut (by kernel_rfl) (of_decide_eq_true (by kernel_rfl)) kk4 bel lt4) trodAll_mk0))))), rfl, bel.frame _, fun h => by cases h⟩
theorem over : Rows.fnExactRideRow.holds Try.pinned (OpenSpec.ofChange Rows.fnExactRideSpec) :=
  OpenClaim.holds_of_wide 5 Try.f5 rfl rfl rfl rfl rfl rfl rfl ⟨rfl, rfl, rfl, rfl, rfl⟩ rfl rfl rfl rfl rfl (by kernel_rfl) Try.func5 (by kernel_rfl)
    (of_decide_eq_true (by kernel_rfl)) (by unfold Func.isWrapper; first | (rw [if_pos (by decide +kernel)]; kernel_rfl) | (rw [if_neg (by decide +kernel)]; exact ⟨rfl, rfl⟩))
    (fun os started H enc _ => lifted os started H enc)
theorem proved : Rows.FnExactRideSaid := over
#print axioms proved
end Go.Proofs.Ytajphnjooknjdaa.fnExactRide
namespace Go.Proofs.Ytajphnjooknjdaa
/-- The row, under a short name, for the claim. -/
theorem fnExactRide_holds : Rows.FnExactRideSaid := fnExactRide.proved
end Go.Proofs.Ytajphnjooknjdaa
