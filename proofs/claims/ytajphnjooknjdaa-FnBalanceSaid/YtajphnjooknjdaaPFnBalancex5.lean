-- Written by a program of this session (wip/tools/fltprint.py: the kit's printer, taught more).
import Derived.Test.YtajphnjooknjdaaPFnBalancex0
import Derived.Test.YtajphnjooknjdaaPFnBalancex1
import Derived.Test.YtajphnjooknjdaaPFnBalancex2
import Derived.Test.YtajphnjooknjdaaPFnBalancex3
import Derived.Test.YtajphnjooknjdaaPFnBalancex4
namespace Go.Proofs.Ytajphnjooknjdaa.PFnBalance
open Go.RowKit Go.Proofs.YtajphnjooknjdaaW.PrintWords Go.Proofs.YtajphnjooknjdaaW.PrintLast Go.Proofs.YtajphnjooknjdaaW.PrintMore
attribute [local go_sem] run_fl binOp_feq binOp_fne binOp_flt binOp_fle binOp_fgt binOp_fge run_store_f64 run_conv_f64
attribute [local go_sem] max2_int min2_int max_two min_two max_three min_three max_four min_four   -- for this text's walks alone
set_option linter.unusedVariables false
set_option linter.unusedSimpArgs false

/-! ### laws_FnBalance: function 7 -/
mutual
def laws_FnBalance.j0 : Nat → List Int → List (S61) → Nat → Int → Bool → Nat → Nat → Option (Bool)
 | 0, _, _, _, _, _, _, _ => none
 | k + 1, x0, x4, x7, x8, x34, x236000, x236001 => if x34 = true then (some false) else (if x8 ≥ 0 then ((impl_Effort.f x236000 x236001 (fofint x8)).bind fun t238 => ((impl_Drag.f k x4 (fofint x8) x7).bind fun t239 => (laws_FnBalance.j1 k x0 x4 x7 x8 (flt t238 t239) x236000 x236001))) else (laws_FnBalance.j1 k x0 x4 x7 x8 false x236000 x236001))
def laws_FnBalance.j1 : Nat → List Int → List (S61) → Nat → Int → Bool → Nat → Nat → Option (Bool)
 | 0, _, _, _, _, _, _, _ => none
 | k + 1, x0, x4, x7, x8, x48, x236000, x236001 => if x48 = true then (some false) else (laws_FnBalance.l0 k x0 x4 x7 x8 (wrap64 (x8 + 1)) x236000 x236001)
def laws_FnBalance.l0 : Nat → List Int → List (S61) → Nat → Int → Int → Nat → Nat → Option (Bool)
 | 0, _, _, _, _, _, _, _ => none
 | k + 1, x0, x4, x7, x8, x9, x236000, x236001 => if x9 ≤ 200 then ((impl_Effort.f x236000 x236001 (fofint x9)).bind fun t243 => ((impl_Drag.f k x4 (fofint x9) x7).bind fun t244 => (if flt t243 t244 = true then (laws_FnBalance.l0 k x0 x4 x7 x8 (wrap64 (x9 + 1)) x236000 x236001) else (some false)))) else ((laws_at.f x0 4).bind fun t240 => (if fok .quo (fofint (Int.tmod t240 32)) (4643211215818981376 : Nat) = true then (if fok .add x7 (fval .quo (fofint (Int.tmod t240 32)) (4643211215818981376 : Nat)) = true then ((impl_Balance.f k x236000 x236001 x4 (fval .add x7 (fval .quo (fofint (Int.tmod t240 32)) (4643211215818981376 : Nat)))).bind fun t241 => (if t241 ≤ x8 then ((spec_Balance.f k x236000 x236001 x4 x7).bind fun t242 => (some (x8 == t242))) else (some false))) else (none)) else (none)))
end
def laws_FnBalance.f (k : Nat) (l0 : List Int) : Option (Bool) := (laws_big.f l0).bind fun t227 => (if t227 = true then (some true) else ((spec_DrawRightPull.f k l0).bind fun bt228 => ((laws_at.f l0 3).bind fun t236 => (if fok .quo (fofint (wrap64 ((Int.tmod t236 64) - 20))) (4643211215818981376 : Nat) = true then ((impl_Balance.f k bt228.1 bt228.2.1 bt228.2.2.1 (fval .quo (fofint (wrap64 ((Int.tmod t236 64) - 20))) (4643211215818981376 : Nat))).bind fun t237 => (if t237 < (-1) then (laws_FnBalance.j0 k l0 bt228.2.2.1 (fval .quo (fofint (wrap64 ((Int.tmod t236 64) - 20))) (4643211215818981376 : Nat)) t237 true bt228.1 bt228.2.1) else (laws_FnBalance.j0 k l0 bt228.2.2.1 (fval .quo (fofint (wrap64 ((Int.tmod t236 64) - 20))) (4643211215818981376 : Nat)) t237 (decide (t237 > 200)) bt228.1 bt228.2.1))) else (none)))))
theorem laws_FnBalance.mono_l : ∀ k, (∀ y0 y1 y2 y3 y4 y5 y6, LeO (laws_FnBalance.j0 k y0 y1 y2 y3 y4 y5 y6) (laws_FnBalance.j0 (k + 1) y0 y1 y2 y3 y4 y5 y6)) ∧ (∀ y0 y1 y2 y3 y4 y5 y6, LeO (laws_FnBalance.j1 k y0 y1 y2 y3 y4 y5 y6) (laws_FnBalance.j1 (k + 1) y0 y1 y2 y3 y4 y5 y6)) ∧ (∀ y0 y1 y2 y3 y4 y5 y6, LeO (laws_FnBalance.l0 k y0 y1 y2 y3 y4 y5 y6) (laws_FnBalance.l0 (k + 1) y0 y1 y2 y3 y4 y5 y6))
 | 0 => ⟨fun _ _ _ _ _ _ _ r h => by simp [laws_FnBalance.j0] at h, fun _ _ _ _ _ _ _ r h => by simp [laws_FnBalance.j1] at h, fun _ _ _ _ _ _ _ r h => by simp [laws_FnBalance.l0] at h⟩
 | k + 1 => by
  obtain ⟨ih0, ih1, ih2⟩ := laws_FnBalance.mono_l k
  refine ⟨?_, ?_, ?_⟩
  ·intro y0 y1 y2 y3 y4 y5 y6
   unfold laws_FnBalance.j0
   repeat' first
   | (with_reducible exact ih0 _ _ _ _ _ _ _)
   | (with_reducible exact ih1 _ _ _ _ _ _ _)
   | (with_reducible exact ih2 _ _ _ _ _ _ _)
   | (with_reducible exact impl_Balance.mono _ _ _ _ _)
   | (with_reducible exact impl_Drag.mono _ _ _ _)
   | (with_reducible exact spec_Balance.mono _ _ _ _ _)
   | (with_reducible exact spec_DrawRightPull.mono _ _)
   | (with_reducible exact LeO.refl _)
   | (with_reducible exact LeO.none _)
   | (with_reducible refine LeO.ite ?_ ?_)
   | (with_reducible refine LeO.bind ?_ (fun _ => ?_))
   | exact ih0 _ _ _ _ _ _ _
   | exact ih1 _ _ _ _ _ _ _
   | exact ih2 _ _ _ _ _ _ _
   | exact impl_Balance.mono _ _ _ _ _
   | exact impl_Drag.mono _ _ _ _
   | exact spec_Balance.mono _ _ _ _ _
   | exact spec_DrawRightPull.mono _ _
   | exact LeO.none _
   | refine LeO.ite ?_ ?_
   | refine LeO.bind ?_ (fun _ => ?_)
  ·intro y0 y1 y2 y3 y4 y5 y6
   unfold laws_FnBalance.j1
   repeat' first
   | (with_reducible exact ih0 _ _ _ _ _ _ _)
   | (with_reducible exact ih1 _ _ _ _ _ _ _)
   | (with_reducible exact ih2 _ _ _ _ _ _ _)
   | (with_reducible exact impl_Balance.mono _ _ _ _ _)
   | (with_reducible exact impl_Drag.mono _ _ _ _)
   | (with_reducible exact spec_Balance.mono _ _ _ _ _)
   | (with_reducible exact spec_DrawRightPull.mono _ _)
   | (with_reducible exact LeO.refl _)
   | (with_reducible exact LeO.none _)
   | (with_reducible refine LeO.ite ?_ ?_)
   | (with_reducible refine LeO.bind ?_ (fun _ => ?_))
   | exact ih0 _ _ _ _ _ _ _
   | exact ih1 _ _ _ _ _ _ _
   | exact ih2 _ _ _ _ _ _ _
   | exact impl_Balance.mono _ _ _ _ _
   | exact impl_Drag.mono _ _ _ _
   | exact spec_Balance.mono _ _ _ _ _
   | exact spec_DrawRightPull.mono _ _
   | exact LeO.none _
   | refine LeO.ite ?_ ?_
   | refine LeO.bind ?_ (fun _ => ?_)
  ·intro y0 y1 y2 y3 y4 y5 y6
   unfold laws_FnBalance.l0
   repeat' first
   | (with_reducible exact ih0 _ _ _ _ _ _ _)
   | (with_reducible exact ih1 _ _ _ _ _ _ _)
   | (with_reducible exact ih2 _ _ _ _ _ _ _)
   | (with_reducible exact impl_Balance.mono _ _ _ _ _)
   | (with_reducible exact impl_Drag.mono _ _ _ _)
   | (with_reducible exact spec_Balance.mono _ _ _ _ _)
   | (with_reducible exact spec_DrawRightPull.mono _ _)
   | (with_reducible exact LeO.refl _)
   | (with_reducible exact LeO.none _)
   | (with_reducible refine LeO.ite ?_ ?_)
   | (with_reducible refine LeO.bind ?_ (fun _ => ?_))
   | exact ih0 _ _ _ _ _ _ _
   | exact ih1 _ _ _ _ _ _ _
   | exact ih2 _ _ _ _ _ _ _
   | exact impl_Balance.mono _ _ _ _ _
   | exact impl_Drag.mono _ _ _ _
   | exact spec_Balance.mono _ _ _ _ _
   | exact spec_DrawRightPull.mono _ _
   | exact LeO.none _
   | refine LeO.ite ?_ ?_
   | refine LeO.bind ?_ (fun _ => ?_)
theorem laws_FnBalance.mono : ∀ a0 k, LeO (laws_FnBalance.f k a0) (laws_FnBalance.f (k + 1) a0) := by
 intro a0 k
 obtain ⟨ih0, ih1, ih2⟩ := laws_FnBalance.mono_l k
 unfold laws_FnBalance.f
 repeat' first
   | (with_reducible exact ih0 _ _ _ _ _ _ _)
   | (with_reducible exact ih1 _ _ _ _ _ _ _)
   | (with_reducible exact ih2 _ _ _ _ _ _ _)
   | (with_reducible exact impl_Balance.mono _ _ _ _ _)
   | (with_reducible exact impl_Drag.mono _ _ _ _)
   | (with_reducible exact spec_Balance.mono _ _ _ _ _)
   | (with_reducible exact spec_DrawRightPull.mono _ _)
   | (with_reducible exact LeO.refl _)
   | (with_reducible exact LeO.none _)
   | (with_reducible refine LeO.ite ?_ ?_)
   | (with_reducible refine LeO.bind ?_ (fun _ => ?_))
   | exact ih0 _ _ _ _ _ _ _
   | exact ih1 _ _ _ _ _ _ _
   | exact ih2 _ _ _ _ _ _ _
   | exact impl_Balance.mono _ _ _ _ _
   | exact impl_Drag.mono _ _ _ _
   | exact spec_Balance.mono _ _ _ _ _
   | exact spec_DrawRightPull.mono _ _
   | exact LeO.none _
   | refine LeO.ite ?_ ?_
   | refine LeO.bind ?_ (fun _ => ?_)
def laws_FnBalance.T15 : Bool × List (List Nat × List Nat) := (true, [([], []), ([], []), ([], []), ([], []), ([3], [3]), ([4], [4]), ([5], [5]), ([6], [6]), ([2, 7], [2, 7]), ([0, 1, 8, 4], [0, 1, 8]), ([], []), ([9, 10], [9, 10]), ([11, 9], [11]), ([12], [12]), ([12], [12]), ([12], [12]), ([12], [12]), ([14, 15, 16, 12, 12], [12, 14, 15, 16]), ([13, 17, 12], [12, 13, 17]), ([12, 18], [12, 18]), ([19, 17, 0, 1, 2, 3, 4, 5, 6, 7, 8, 9, 10, 11, 12, 13, 14, 15, 16, 17, 18, 19], [19])])
def laws_FnBalance.B15 : List Nat := [0, 0, 0, 0, 8, 24, 56, 120, 252, 511, 0, 2047, 4095, 8191, 8191, 8191, 8191, 122879, 262143, 524287, 1048575]
theorem laws_FnBalance.tab15 : rtab .any (opsOf Try.f7 15) = laws_FnBalance.T15 := by kernel_rfl
theorem laws_FnBalance.bits15 : waitsOk laws_FnBalance.T15.2 laws_FnBalance.B15 = true := by kernel_rfl
set_option maxHeartbeats 8000000 in
set_option maxRecDepth 100000 in
theorem laws_FnBalance.calls (k : Nat) (A0 : Option Addr) (c0 : Nat) (l0 : List Int) (w : World) (hr0 : Kd.C (Kd.int .u8) w A0 l0.length l0) (hc0 : l0.length ≤ c0) (h : laws_FnBalance.f k l0 = some true) :
  Calls Try.prog 7 #[.slice A0 l0.length c0] w fun e w' => e = .returned (.bool true) ∧ Below w.heap.size w w' := by
 have hu27 := Try.underlying27
 have HR0 := Aside0.mk hr0
 have HC0 := Aside0.mk hc0
 clear hr0 hc0
 have HB := Aside0.mk (Below.refl w.heap.size w)
 have H : ((laws_big.f l0).bind fun t227 => (if t227 = true then (some true) else ((spec_DrawRightPull.f k l0).bind fun bt228 => ((laws_at.f l0 3).bind fun t236 => (if fok .quo (fofint (wrap64 ((Int.tmod t236 64) - 20))) (4643211215818981376 : Nat) = true then ((impl_Balance.f k bt228.1 bt228.2.1 bt228.2.2.1 (fval .quo (fofint (wrap64 ((Int.tmod t236 64) - 20))) (4643211215818981376 : Nat))).bind fun t237 => (if t237 < (-1) then (laws_FnBalance.j0 k l0 bt228.2.2.1 (fval .quo (fofint (wrap64 ((Int.tmod t236 64) - 20))) (4643211215818981376 : Nat)) t237 true bt228.1 bt228.2.1) else (laws_FnBalance.j0 k l0 bt228.2.2.1 (fval .quo (fofint (wrap64 ((Int.tmod t236 64) - 20))) (4643211215818981376 : Nat)) t237 (decide (t237 > 200)) bt228.1 bt228.2.1))) else (none)))))) = some true := h
 clear h
 replace H := Option.bind_eq_some_iff.mp H
 obtain ⟨t227, A20, H⟩ := H
 replace H : (if t227 = true then (some true) else ((spec_DrawRightPull.f k l0).bind fun bt228 => ((laws_at.f l0 3).bind fun t236 => (if fok .quo (fofint (wrap64 ((Int.tmod t236 64) - 20))) (4643211215818981376 : Nat) = true then ((impl_Balance.f k bt228.1 bt228.2.1 bt228.2.2.1 (fval .quo (fofint (wrap64 ((Int.tmod t236 64) - 20))) (4643211215818981376 : Nat))).bind fun t237 => (if t237 < (-1) then (laws_FnBalance.j0 k l0 bt228.2.2.1 (fval .quo (fofint (wrap64 ((Int.tmod t236 64) - 20))) (4643211215818981376 : Nat)) t237 true bt228.1 bt228.2.1) else (laws_FnBalance.j0 k l0 bt228.2.2.1 (fval .quo (fofint (wrap64 ((Int.tmod t236 64) - 20))) (4643211215818981376 : Nat)) t237 (decide (t237 > 200)) bt228.1 bt228.2.1))) else (none))))) = some true := H
 have A2 := Aside0.mk A20
 clear A20
 by_cases c3 : t227 = true
 ·subst c3
  have H1 : (some true) = some true := by (first | (rw [if_pos rfl] at H; exact H) | rfl)
  clear H
  have H := H1
  clear H1
  clear H
  go_enter Try.func7, Try.ntmps7
  go_wp2_with (first | ((with_reducible refine gate_callee (f := 29) rfl ?_); refine goesL_ (some 11) rfl rfl Try.func29 (by kernel_rfl) rfl #[.slice A0 l0.length c0] rfl (by (try simp only [List.map_toArray, List.map_cons, List.map_nil]); first | done | rfl | (simp only [List.length_drop, List.length_take]; rfl)) ?_; (with_reducible refine (laws_big.calls _ _ l0 true _ ?side1 ?side2 A2.out).mono ?_); (case side1 => repeat (first | exact HR0.out | (with_reducible refine Kd.C_alloc ?_ _) | (with_reducible refine Kd.C_drewN ?_ _) | (with_reducible refine Kd.C_drew ?_))); (case side2 => exact HC0.out); rintro e w' ⟨rfl, ⟨nd, rfl⟩⟩; refine ⟨_, rfl, ?_⟩))
  go_ret
  exact ⟨by first | rfl | (simp [errW_none, errW_some] <;> rfl) | (simp [*, errW_none, errW_some] <;> rfl), by repeat (first | (with_reducible first | exact HB.out | apply below_alloc | apply pw_below_drewN | apply below_drew1) | exact HB.out)⟩
 ·replace c3 := Bool.eq_false_iff.mpr c3
  subst c3
  have H1 : ((spec_DrawRightPull.f k l0).bind fun bt228 => ((laws_at.f l0 3).bind fun t236 => (if fok .quo (fofint (wrap64 ((Int.tmod t236 64) - 20))) (4643211215818981376 : Nat) = true then ((impl_Balance.f k bt228.1 bt228.2.1 bt228.2.2.1 (fval .quo (fofint (wrap64 ((Int.tmod t236 64) - 20))) (4643211215818981376 : Nat))).bind fun t237 => (if t237 < (-1) then (laws_FnBalance.j0 k l0 bt228.2.2.1 (fval .quo (fofint (wrap64 ((Int.tmod t236 64) - 20))) (4643211215818981376 : Nat)) t237 true bt228.1 bt228.2.1) else (laws_FnBalance.j0 k l0 bt228.2.2.1 (fval .quo (fofint (wrap64 ((Int.tmod t236 64) - 20))) (4643211215818981376 : Nat)) t237 (decide (t237 > 200)) bt228.1 bt228.2.1))) else (none)))) = some true := by (first | (rw [if_neg (show ¬ (false = true) by decide)] at H; exact H) | rfl)
  clear H
  have H := H1
  clear H1
  replace H := Option.bind_eq_some_iff.mp H
  obtain ⟨⟨t228, t229, t230, t233, t234⟩, A40, H⟩ := H
  replace H : ((laws_at.f l0 3).bind fun t236 => (if fok .quo (fofint (wrap64 ((Int.tmod t236 64) - 20))) (4643211215818981376 : Nat) = true then ((impl_Balance.f k t228 t229 t230 (fval .quo (fofint (wrap64 ((Int.tmod t236 64) - 20))) (4643211215818981376 : Nat))).bind fun t237 => (if t237 < (-1) then (laws_FnBalance.j0 k l0 t230 (fval .quo (fofint (wrap64 ((Int.tmod t236 64) - 20))) (4643211215818981376 : Nat)) t237 true t228 t229) else (laws_FnBalance.j0 k l0 t230 (fval .quo (fofint (wrap64 ((Int.tmod t236 64) - 20))) (4643211215818981376 : Nat)) t237 (decide (t237 > 200)) t228 t229))) else (none))) = some true := H
  have A4 := Aside0.mk A40
  clear A40
  replace H := Option.bind_eq_some_iff.mp H
  obtain ⟨t236, A50, H⟩ := H
  replace H : (if fok .quo (fofint (wrap64 ((Int.tmod t236 64) - 20))) (4643211215818981376 : Nat) = true then ((impl_Balance.f k t228 t229 t230 (fval .quo (fofint (wrap64 ((Int.tmod t236 64) - 20))) (4643211215818981376 : Nat))).bind fun t237 => (if t237 < (-1) then (laws_FnBalance.j0 k l0 t230 (fval .quo (fofint (wrap64 ((Int.tmod t236 64) - 20))) (4643211215818981376 : Nat)) t237 true t228 t229) else (laws_FnBalance.j0 k l0 t230 (fval .quo (fofint (wrap64 ((Int.tmod t236 64) - 20))) (4643211215818981376 : Nat)) t237 (decide (t237 > 200)) t228 t229))) else (none)) = some true := H
  have A5 := Aside0.mk A50
  clear A50
  by_cases c6 : fok .quo (fofint (wrap64 ((Int.tmod t236 64) - 20))) (4643211215818981376 : Nat) = true
  ·rw [if_pos c6] at H
   have c6b0 := eq_true c6
   have c6b1 : decide (fok .quo (fofint (wrap64 ((Int.tmod t236 64) - 20))) (4643211215818981376 : Nat) = true) = true := decide_eq_true c6
   clear c6
   replace H := Option.bind_eq_some_iff.mp H
   obtain ⟨t237, A70, H⟩ := H
   replace H : (if t237 < (-1) then (laws_FnBalance.j0 k l0 t230 (fval .quo (fofint (wrap64 ((Int.tmod t236 64) - 20))) (4643211215818981376 : Nat)) t237 true t228 t229) else (laws_FnBalance.j0 k l0 t230 (fval .quo (fofint (wrap64 ((Int.tmod t236 64) - 20))) (4643211215818981376 : Nat)) t237 (decide (t237 > 200)) t228 t229)) = some true := H
   have A7 := Aside0.mk A70
   clear A70
   have HC8 := Aside0.mk H
   clear H
   go_enter Try.func7, Try.ntmps7
   go_upto_region 6 with (first | ((with_reducible refine gate_callee (f := 29) rfl ?_); refine goesL_ (some 11) rfl rfl Try.func29 (by kernel_rfl) rfl #[.slice A0 l0.length c0] rfl (by (try simp only [List.map_toArray, List.map_cons, List.map_nil]); first | done | rfl | (simp only [List.length_drop, List.length_take]; rfl)) ?_; (with_reducible refine (laws_big.calls _ _ l0 false _ ?side1 ?side2 A2.out).mono ?_); (case side1 => repeat (first | exact HR0.out | (with_reducible refine Kd.C_alloc ?_ _) | (with_reducible refine Kd.C_drewN ?_ _) | (with_reducible refine Kd.C_drew ?_))); (case side2 => exact HC0.out); rintro e w' ⟨rfl, ⟨nd, rfl⟩⟩; refine ⟨_, rfl, ?_⟩) | ((with_reducible refine gate_callee (f := 30) rfl ?_); refine goesL_ (some 14) rfl rfl Try.func30 (by kernel_rfl) rfl #[.slice A0 l0.length c0] rfl (by (try simp only [List.map_toArray, List.map_cons, List.map_nil]); first | done | rfl | (simp only [List.length_drop, List.length_take]; rfl)) ?_; (with_reducible refine (spec_DrawRightPull.calls k _ _ l0 t228 t229 t230 t233 t234 _ ?side1 ?side2 A4.out).mono ?_); (case side1 => repeat (first | exact HR0.out | (with_reducible refine Kd.C_alloc ?_ _) | (with_reducible refine Kd.C_drewN ?_ _) | (with_reducible refine Kd.C_drew ?_))); (case side2 => exact HC0.out); rintro e w9 ⟨v231, rfl, ho0, hb⟩; refine ⟨_, rfl, ?_⟩; have n0_ := Aside0.mk (Kd.R_lower ho0 (below_size (by repeat (first | (with_reducible first | exact HB.out | apply below_alloc | apply pw_below_drewN | apply below_drew1) | exact HB.out)))); have n1_ := Aside0.mk (below_step (by repeat (first | (with_reducible first | exact HB.out | apply below_alloc | apply pw_below_drewN | apply below_drew1) | exact HB.out)) hb); clear HB; have HO232 := n0_; have HB := n1_; clear n0_ n1_; (try clear hb); (try clear hb2); (try clear hk); (try clear hi); (try clear ho0)) | ((with_reducible refine gate_dst (N := 3) rfl ?_); refine box_event ?hg (N := 3) ?hd (cs := #[.float .f64 (0 : Nat), .float .f64 (0 : Nat)]) (t := 27) ?hr ?_; (case hd => rfl); (case hg => rfl); (case hr => first | (go_simp; done) | (go_simp; rfl)); intro gb235 hg w10 hbox hb; have n0_ := Aside0.mk (Kd.R_below (by (with_reducible repeat (first | apply Kd.R_alloc | apply Kd.R_drewN | apply Kd.R_drew)); exact HO232.out) hb); have n1_ := Aside0.mk (below_step (by repeat (first | (with_reducible first | exact HB.out | apply below_alloc | apply pw_below_drewN | apply below_drew1) | exact HB.out)) hb); have n2_ := Aside0.mk (hbox); have n3_ := Aside0.mk ((by rw [hg]; exact (below_size (by repeat (first | (with_reducible first | exact HB.out | apply below_alloc | apply pw_below_drewN | apply below_drew1) | exact HB.out))) : w.heap.size ≤ gb235)); have n4_ := Aside0.mk ((by rw [hg]; exact (below_size (by repeat (first | (with_reducible first | exact HB.out | apply below_alloc | apply pw_below_drewN | apply below_drew1) | exact HB.out))) : w.heap.size ≤ gb235)); clear HO232; clear HB; have HO232 := n0_; have HB := n1_; have BK235 := n2_; have GW235 := n3_; have GE235 := n4_; clear n0_ n1_ n2_ n3_ n4_; clear hb hbox hg; have hcz11_0 : w10.cell? ⟨gb235, 0, none⟩ = some (.float .f64 (0 : Nat)) := (blk_cell BK235.out 0).trans rfl; have hcz11_1 : w10.cell? ⟨gb235, 1, none⟩ = some (.float .f64 (0 : Nat)) := (blk_cell BK235.out 1).trans rfl; have hfz11_0 := blk_frozen BK235.out 0; have hfz11_1 := blk_frozen BK235.out 1) | ((with_reducible refine gate_callee (f := 31) rfl ?_); refine goesL_ (some 20) rfl rfl Try.func31 (by kernel_rfl) rfl #[.slice A0 l0.length c0, .int .i64 3] rfl (by (try simp only [List.map_toArray, List.map_cons, List.map_nil]); first | done | rfl | (simp only [List.length_drop, List.length_take]; rfl)) ?_; (with_reducible refine (laws_at.calls _ _ l0 3 t236 _ ?side1 ?side2 A5.out).mono ?_); (case side1 => exact Kd.C_below HR0.out (by repeat (first | (with_reducible first | exact HB.out | apply below_alloc | apply pw_below_drewN | apply below_drew1 | refine below_set ?_ GE235.out) | exact HB.out))); (case side2 => exact HC0.out); rintro e w' ⟨rfl, ⟨nd, rfl⟩⟩; refine ⟨_, rfl, ?_⟩; obtain ⟨Ao12, co12, eo12⟩ := Kd.R_slice HO232.out; subst eo12) | ((with_reducible refine gate_callee (f := 32) rfl ?_); refine goesL_ (some 28) rfl rfl Try.func32 (by kernel_rfl) rfl #[.agg #[.float .f64 t228, .float .f64 t229], .slice Ao12 t230.length co12, .float .f64 (fval .quo (fofint (wrap64 ((Int.tmod t236 64) - 20))) (4643211215818981376 : Nat))] rfl (by (try simp only [List.map_toArray, List.map_cons, List.map_nil]); first | done | rfl | (simp only [List.length_drop, List.length_take]; rfl)) ?_; (with_reducible refine (impl_Balance.calls k t228 t229 _ _ t230 (fval .quo (fofint (wrap64 ((Int.tmod t236 64) - 20))) (4643211215818981376 : Nat)) t237 _ ?side1 ?side2 A7.out).mono ?_); (case side1 => refine (Kd.R_reads' (e := 61) (base := w.heap.size) (ok := fun k_ => True) (n := t230.length) (c := co12) ?_).2.2; exact (by (with_reducible repeat (first | apply Kd.R_alloc | apply Kd.R_drewN | apply Kd.R_drew)); exact (Kd.R_mono (Kd.R_far (p := ⟨gb235, 1, none⟩) (Kd.R_far (p := ⟨gb235, 0, none⟩) (Kd.R_types HO232.out BK235.out (by decide)) (fun _ hk => hk.2) (.float .f64 t228)) (fun _ hk => hk.2) (.float .f64 t229)) (fun _ h_ => h_.1)))); (case side2 => exact (Kd.R_reads' HO232.out).2.1); rintro e w13 ⟨rfl, hb⟩; refine ⟨_, rfl, ?_⟩; have n0_ := Aside0.mk (Kd.R_below (by (with_reducible repeat (first | apply Kd.R_alloc | apply Kd.R_drewN | apply Kd.R_drew)); exact (Kd.R_mono (Kd.R_far (p := ⟨gb235, 1, none⟩) (Kd.R_far (p := ⟨gb235, 0, none⟩) (Kd.R_types HO232.out BK235.out (by decide)) (fun _ hk => hk.2) (.float .f64 t228)) (fun _ hk => hk.2) (.float .f64 t229)) (fun _ h_ => h_.1))) hb); have n1_ := Aside0.mk (blk_below (g := gb235) (o := .cells #[.float .f64 t228, .float .f64 t229] 27 (0, 0)) (by (with_reducible repeat (first | refine blk_drewN ?_ _ | refine blk_drew ?_ | refine blk_alloc ?_ _)); refine blk_put (cs := #[.float .f64 t228, .float .f64 (0 : Nat)]) ?_ 1 _ rfl; (with_reducible repeat (first | refine blk_drewN ?_ _ | refine blk_drew ?_ | refine blk_alloc ?_ _)); refine blk_put (cs := #[.float .f64 (0 : Nat), .float .f64 (0 : Nat)]) ?_ 0 _ rfl; (with_reducible repeat (first | refine blk_drewN ?_ _ | refine blk_drew ?_ | refine blk_alloc ?_ _)); exact BK235.out) hb); have n2_ := Aside0.mk (below_step (by repeat (first | (with_reducible first | exact HB.out | apply below_alloc | apply pw_below_drewN | apply below_drew1 | refine below_set ?_ GE235.out) | exact HB.out)) hb); clear HO232; clear BK235; clear HB; have HO232 := n0_; have BK235 := n1_; have HB := n2_; clear n0_ n1_ n2_; (try clear hb); (try clear hb2); (try clear hk); (try clear hi)))
   (try simp only [Act.put, List.setIfInBounds_toArray, List.set_cons_zero, List.set_cons_succ])
   go_cut [34] (fun v34 wc => ∃ (kq : Nat) (x34_7 : Bool), v34 = .bool x34_7 ∧ Aside0 (laws_FnBalance.j0 kq l0 t230 (fval .quo (fofint (wrap64 ((Int.tmod t236 64) - 20))) (4643211215818981376 : Nat)) t237 x34_7 t228 t229 = some true) ∧ Aside0 (kq ≤ k) ∧ Aside0 (Kd.R k61 61 wc w.heap.size (fun _ => True) (.slice Ao12 t230.length co12) t230) ∧ Aside0 (wc.heap[gb235]? = some (.cells #[.float .f64 t228, .float .f64 t229] 27 (0, 0))) ∧ Aside0 (Below w.heap.size w wc))
   case first =>
    have H := HC8.out
    clear HC8
    by_cases c14 : t237 < (-1)
    ·rw [if_pos c14] at H
     have c14b0 : decide (t237 < (-1)) = true := decide_eq_true c14
     clear c14
     (first | rw [c14b0] | (simp only [i64_w, i32_w]; rw [c14b0]) | skip)
     have H' := Aside0.mk H
     clear H
     go_wp2
     go_meet
     case rel => exact ⟨_, (true), (by first | rfl | (simp; done) | (simp [*]; done)), H', ⟨by first | omega | exact Nat.le_refl _⟩, ⟨by (with_reducible repeat (first | apply Kd.R_alloc | apply Kd.R_drewN | apply Kd.R_drew)); exact HO232.out⟩, ⟨by (with_reducible repeat (first | refine blk_drewN ?_ _ | refine blk_drew ?_ | refine blk_alloc ?_ _)); exact BK235.out⟩, ⟨by repeat (first | (with_reducible first | exact HB.out | apply below_alloc | apply pw_below_drewN | apply below_drew1 | refine below_set ?_ GE235.out) | exact HB.out)⟩⟩
    ·rw [if_neg c14] at H
     have c14b0 : decide (t237 < (-1)) = false := decide_eq_false c14
     clear c14
     (first | rw [c14b0] | (simp only [i64_w, i32_w]; rw [c14b0]) | skip)
     have H' := Aside0.mk H
     clear H
     go_wp2
     go_meet
     case rel => exact ⟨_, (decide (t237 > 200)), (by first | rfl | (simp; done) | (simp [*]; done)), H', ⟨by first | omega | exact Nat.le_refl _⟩, ⟨by (with_reducible repeat (first | apply Kd.R_alloc | apply Kd.R_drewN | apply Kd.R_drew)); exact HO232.out⟩, ⟨by (with_reducible repeat (first | refine blk_drewN ?_ _ | refine blk_drew ?_ | refine blk_alloc ?_ _)); exact BK235.out⟩, ⟨by repeat (first | (with_reducible first | exact HB.out | apply below_alloc | apply pw_below_drewN | apply below_drew1 | refine below_set ?_ GE235.out) | exact HB.out)⟩⟩
   case rest =>
    clear HC8
    try clear c1
    try clear c2
    try clear p2
    try clear c3
    try clear c6
    try clear c6b0
    try clear c6b1
    try clear p6
    try clear c7
    try clear c14
    try clear c14b0
    try clear hcz11_0
    try clear hcz11_1
    try clear hfz11_0
    try clear hfz11_1
    obtain ⟨kq, x34_7, rfl, HA, HJ7, HO_4, BK235, HB⟩ := hcut
    cases kq with
    | zero => exact absurd HA.out (by simp [laws_FnBalance.j0])
    | succ kj7 =>
     have H := HA.out
     clear HA
     simp only [laws_FnBalance.j0] at H
     by_cases c15 : x34_7 = true
     ·subst c15
      have H1 : (some false) = some true := by (first | (rw [if_pos rfl] at H; exact H) | rfl)
      clear H
      have H := H1
      clear H1
      exact absurd (Option.some.inj H) (by decide)
     ·replace c15 := Bool.eq_false_iff.mpr c15
      subst c15
      have H1 : (if t237 ≥ 0 then ((impl_Effort.f t228 t229 (fofint t237)).bind fun t238 => ((impl_Drag.f kj7 t230 (fofint t237) (fval .quo (fofint (wrap64 ((Int.tmod t236 64) - 20))) (4643211215818981376 : Nat))).bind fun t239 => (laws_FnBalance.j1 kj7 l0 t230 (fval .quo (fofint (wrap64 ((Int.tmod t236 64) - 20))) (4643211215818981376 : Nat)) t237 (flt t238 t239) t228 t229))) else (laws_FnBalance.j1 kj7 l0 t230 (fval .quo (fofint (wrap64 ((Int.tmod t236 64) - 20))) (4643211215818981376 : Nat)) t237 false t228 t229)) = some true := by (first | (rw [if_neg (show ¬ (false = true) by decide)] at H; exact H) | rfl)
      clear H
      have H := H1
      clear H1
      have HC16 := Aside0.mk H
      clear H
      go_upto_region 8 with (fail)
      go_cut [48] (fun v48 wc => ∃ (kq : Nat) (x48_15 : Bool), v48 = .bool x48_15 ∧ Aside0 (laws_FnBalance.j1 kq l0 t230 (fval .quo (fofint (wrap64 ((Int.tmod t236 64) - 20))) (4643211215818981376 : Nat)) t237 x48_15 t228 t229 = some true) ∧ Aside0 (kq ≤ kj7) ∧ Aside0 (Kd.R k61 61 wc w.heap.size (fun _ => True) (.slice Ao12 t230.length co12) t230) ∧ Aside0 (wc.heap[gb235]? = some (.cells #[.float .f64 t228, .float .f64 t229] 27 (0, 0))) ∧ Aside0 (Below w.heap.size w wc))
      case first =>
       have H := HC16.out
       clear HC16
       by_cases c17 : t237 ≥ 0
       ·rw [if_pos c17] at H
        have c17b0 : decide (0 ≤ t237) = true := decide_eq_true c17
        clear c17
        (first | rw [c17b0] | (simp only [i64_w, i32_w]; rw [c17b0]) | skip)
        replace H := Option.bind_eq_some_iff.mp H
        obtain ⟨t238, A180, H⟩ := H
        replace H : ((impl_Drag.f kj7 t230 (fofint t237) (fval .quo (fofint (wrap64 ((Int.tmod t236 64) - 20))) (4643211215818981376 : Nat))).bind fun t239 => (laws_FnBalance.j1 kj7 l0 t230 (fval .quo (fofint (wrap64 ((Int.tmod t236 64) - 20))) (4643211215818981376 : Nat)) t237 (flt t238 t239) t228 t229)) = some true := H
        have A18 := Aside0.mk A180
        clear A180
        replace H := Option.bind_eq_some_iff.mp H
        obtain ⟨t239, A190, H⟩ := H
        replace H : (laws_FnBalance.j1 kj7 l0 t230 (fval .quo (fofint (wrap64 ((Int.tmod t236 64) - 20))) (4643211215818981376 : Nat)) t237 (flt t238 t239) t228 t229) = some true := H
        have A19 := Aside0.mk A190
        clear A190
        have H' := Aside0.mk H
        clear H
        have hcz20_0 : wc.cell? ⟨gb235, 0, none⟩ = some (.float .f64 t228) := (blk_cell BK235.out 0).trans rfl
        have hcz20_1 : wc.cell? ⟨gb235, 1, none⟩ = some (.float .f64 t229) := (blk_cell BK235.out 1).trans rfl
        have hfz20_0 := blk_frozen BK235.out 0
        have hfz20_1 := blk_frozen BK235.out 1
        go_wp2_with (first | (go_at_call 33; (with_reducible refine (impl_Effort.calls t228 t229 (fofint t237) t238 _ A18.out).mono ?_); rintro e w21 ⟨rfl, hb⟩; have n0_ := Aside0.mk (Kd.R_below (by (with_reducible repeat (first | apply Kd.R_alloc | apply Kd.R_drewN | apply Kd.R_drew)); exact HO_4.out) hb); have n1_ := Aside0.mk (blk_below (g := gb235) (o := .cells #[.float .f64 t228, .float .f64 t229] 27 (0, 0)) (by (with_reducible repeat (first | refine blk_drewN ?_ _ | refine blk_drew ?_ | refine blk_alloc ?_ _)); exact BK235.out) hb); have n2_ := Aside0.mk (below_step (by repeat (first | (with_reducible first | exact HB.out | apply below_alloc | apply pw_below_drewN | apply below_drew1 | refine below_set ?_ GE235.out) | exact HB.out)) hb); clear HO_4; clear BK235; clear HB; have HO_4 := n0_; have BK235 := n1_; have HB := n2_; clear n0_ n1_ n2_; (try clear hb); (try clear hb2); (try clear hk); (try clear hi)) | (go_at_call 28; (with_reducible refine (impl_Drag.calls kj7 _ _ t230 (fofint t237) (fval .quo (fofint (wrap64 ((Int.tmod t236 64) - 20))) (4643211215818981376 : Nat)) t239 _ ?side1 ?side2 A19.out).mono ?_); (case side1 => repeat (first | exact (Kd.R_reads' HO_4.out).2.2 | (with_reducible refine Kd.C_alloc ?_ _) | (with_reducible refine Kd.C_drewN ?_ _) | (with_reducible refine Kd.C_drew ?_))); (case side2 => exact (Kd.R_reads' HO_4.out).2.1); rintro e w22 ⟨rfl, hb⟩; have n0_ := Aside0.mk (Kd.R_below (by (with_reducible repeat (first | apply Kd.R_alloc | apply Kd.R_drewN | apply Kd.R_drew)); exact HO_4.out) hb); have n1_ := Aside0.mk (blk_below (g := gb235) (o := .cells #[.float .f64 t228, .float .f64 t229] 27 (0, 0)) (by (with_reducible repeat (first | refine blk_drewN ?_ _ | refine blk_drew ?_ | refine blk_alloc ?_ _)); exact BK235.out) hb); have n2_ := Aside0.mk (below_step (by repeat (first | (with_reducible first | exact HB.out | apply below_alloc | apply pw_below_drewN | apply below_drew1 | refine below_set ?_ GE235.out) | exact HB.out)) hb); clear HO_4; clear BK235; clear HB; have HO_4 := n0_; have BK235 := n1_; have HB := n2_; clear n0_ n1_ n2_; (try clear hb); (try clear hb2); (try clear hk); (try clear hi)))
        go_meet
        case rel => exact ⟨_, ((flt t238 t239)), (by first | rfl | (simp; done) | (simp [*]; done)), H', ⟨by have := HJ7.out; first | omega | exact Nat.le_refl _⟩, ⟨by (with_reducible repeat (first | apply Kd.R_alloc | apply Kd.R_drewN | apply Kd.R_drew)); exact HO_4.out⟩, ⟨by (with_reducible repeat (first | refine blk_drewN ?_ _ | refine blk_drew ?_ | refine blk_alloc ?_ _)); exact BK235.out⟩, ⟨by repeat (first | (with_reducible first | exact HB.out | apply below_alloc | apply pw_below_drewN | apply below_drew1 | refine below_set ?_ GE235.out) | exact HB.out)⟩⟩
       ·rw [if_neg c17] at H
        have c17b0 : decide (0 ≤ t237) = false := decide_eq_false c17
        clear c17
        (first | rw [c17b0] | (simp only [i64_w, i32_w]; rw [c17b0]) | skip)
        have H' := Aside0.mk H
        clear H
        go_wp2
        go_meet
        case rel => exact ⟨_, (false), (by first | rfl | (simp; done) | (simp [*]; done)), H', ⟨by have := HJ7.out; first | omega | exact Nat.le_refl _⟩, ⟨by (with_reducible repeat (first | apply Kd.R_alloc | apply Kd.R_drewN | apply Kd.R_drew)); exact HO_4.out⟩, ⟨by (with_reducible repeat (first | refine blk_drewN ?_ _ | refine blk_drew ?_ | refine blk_alloc ?_ _)); exact BK235.out⟩, ⟨by repeat (first | (with_reducible first | exact HB.out | apply below_alloc | apply pw_below_drewN | apply below_drew1 | refine below_set ?_ GE235.out) | exact HB.out)⟩⟩
      case rest =>
       clear HC16
       try clear c1
       try clear c2
       try clear p2
       try clear c3
       try clear c6
       try clear c6b0
       try clear c6b1
       try clear p6
       try clear c7
       try clear c14
       try clear c14b0
       try clear c15
       try clear c17
       try clear c17b0
       try clear hcz11_0
       try clear hcz11_1
       try clear hcz20_0
       try clear hcz20_1
       try clear hfz11_0
       try clear hfz11_1
       try clear hfz20_0
       try clear hfz20_1
       try clear p2
       try clear p6
       obtain ⟨kq, x48_15, rfl, HA, HJ15, HO_4, BK235, HB⟩ := hcut
       cases kq with
       | zero => exact absurd HA.out (by simp [laws_FnBalance.j1])
       | succ kj15 =>
        have H := HA.out
        clear HA
        simp only [laws_FnBalance.j1] at H
        by_cases c23 : x48_15 = true
        ·subst c23
         have H1 : (some false) = some true := by (first | (rw [if_pos rfl] at H; exact H) | rfl)
         clear H
         have H := H1
         clear H1
         exact absurd (Option.some.inj H) (by decide)
        ·replace c23 := Bool.eq_false_iff.mpr c23
         subst c23
         have H1 : (laws_FnBalance.l0 kj15 l0 t230 (fval .quo (fofint (wrap64 ((Int.tmod t236 64) - 20))) (4643211215818981376 : Nat)) t237 (wrap64 (t237 + 1)) t228 t229) = some true := by (first | (rw [if_neg (show ¬ (false = true) by decide)] at H; exact H) | rfl)
         clear H
         have H := H1
         clear H1
         have H' := Aside0.mk H
         clear H
         go_wp2
         go_loopg [9] kj15 (fun kq v9 w' => ∃ (x9_3 : Int), v9 = .int .i64 x9_3 ∧ Aside0 (laws_FnBalance.l0 kq l0 t230 (fval .quo (fofint (wrap64 ((Int.tmod t236 64) - 20))) (4643211215818981376 : Nat)) t237 x9_3 t228 t229 = some true) ∧ Aside0 (kq ≤ kj15) ∧ Aside0 (Kd.R k61 61 w' w.heap.size (fun _ => True) (.slice Ao12 t230.length co12) t230) ∧ Aside0 (w'.heap[gb235]? = some (.cells #[.float .f64 t228, .float .f64 t229] 27 (0, 0))) ∧ Aside0 (Below w.heap.size w w'))
         case atStart => exact ⟨(wrap64 (t237 + 1)), (by first | rfl | (simp; done) | (simp [*]; done)), H', ⟨Nat.le_refl _⟩, ⟨by (with_reducible repeat (first | apply Kd.R_alloc | apply Kd.R_drewN | apply Kd.R_drew)); exact HO_4.out⟩, ⟨by (with_reducible repeat (first | refine blk_drewN ?_ _ | refine blk_drew ?_ | refine blk_alloc ?_ _)); exact BK235.out⟩, ⟨by repeat (first | (with_reducible first | exact HB.out | apply below_alloc | apply pw_below_drewN | apply below_drew1 | refine below_set ?_ GE235.out) | exact HB.out)⟩⟩
         case round =>
          clear H'
          try clear c1
          try clear c2
          try clear p2
          try clear c3
          try clear c6
          try clear c6b0
          try clear c6b1
          try clear p6
          try clear c7
          try clear c14
          try clear c14b0
          try clear c15
          try clear c17
          try clear c17b0
          try clear c23
          try clear hcz11_0
          try clear hcz11_1
          try clear hcz20_0
          try clear hcz20_1
          try clear hfz11_0
          try clear hfz11_1
          try clear hfz20_0
          try clear hfz20_1
          try clear p2
          try clear p6
          obtain ⟨x9_3, rfl, HA, HK3, HO_4, BK235, HB⟩ := hrel
          cases gk with
          | zero => exact absurd HA.out (by simp [laws_FnBalance.l0])
          | succ k3 =>
           have H := HA.out
           clear HA
           simp only [laws_FnBalance.l0] at H
           by_cases c24 : x9_3 ≤ 200
           ·rw [if_pos c24] at H
            have c24b0 : decide (x9_3 ≤ 200) = true := decide_eq_true c24
            clear c24
            replace H := Option.bind_eq_some_iff.mp H
            obtain ⟨t243, A250, H⟩ := H
            replace H : ((impl_Drag.f k3 t230 (fofint x9_3) (fval .quo (fofint (wrap64 ((Int.tmod t236 64) - 20))) (4643211215818981376 : Nat))).bind fun t244 => (if flt t243 t244 = true then (laws_FnBalance.l0 k3 l0 t230 (fval .quo (fofint (wrap64 ((Int.tmod t236 64) - 20))) (4643211215818981376 : Nat)) t237 (wrap64 (x9_3 + 1)) t228 t229) else (some false))) = some true := H
            have A25 := Aside0.mk A250
            clear A250
            replace H := Option.bind_eq_some_iff.mp H
            obtain ⟨t244, A260, H⟩ := H
            replace H : (if flt t243 t244 = true then (laws_FnBalance.l0 k3 l0 t230 (fval .quo (fofint (wrap64 ((Int.tmod t236 64) - 20))) (4643211215818981376 : Nat)) t237 (wrap64 (x9_3 + 1)) t228 t229) else (some false)) = some true := H
            have A26 := Aside0.mk A260
            clear A260
            by_cases c27 : flt t243 t244 = true
            ·rw [if_pos c27] at H
             have c27b0 : flt t243 t244 = true := c27
             clear c27
             have H' := Aside0.mk H
             clear H
             have hcz28_0 : wr.cell? ⟨gb235, 0, none⟩ = some (.float .f64 t228) := (blk_cell BK235.out 0).trans rfl
             have hcz28_1 : wr.cell? ⟨gb235, 1, none⟩ = some (.float .f64 t229) := (blk_cell BK235.out 1).trans rfl
             have hfz28_0 := blk_frozen BK235.out 0
             have hfz28_1 := blk_frozen BK235.out 1
             go_wp2_with (first | ((with_reducible refine gate_callee (f := 33) rfl ?_); refine goesL_ (some 58) rfl rfl Try.func33 (by kernel_rfl) rfl #[.agg #[.float .f64 t228, .float .f64 t229], .float .f64 (fofint x9_3)] rfl (by (try simp only [List.map_toArray, List.map_cons, List.map_nil]); first | done | rfl | (simp only [List.length_drop, List.length_take]; rfl)) ?_; (with_reducible refine (impl_Effort.calls t228 t229 (fofint x9_3) t243 _ A25.out).mono ?_); rintro e w29 ⟨rfl, hb⟩; refine ⟨_, rfl, ?_⟩; have n0_ := Aside0.mk (Kd.R_below (by (with_reducible repeat (first | apply Kd.R_alloc | apply Kd.R_drewN | apply Kd.R_drew)); exact HO_4.out) hb); have n1_ := Aside0.mk (blk_below (g := gb235) (o := .cells #[.float .f64 t228, .float .f64 t229] 27 (0, 0)) (by (with_reducible repeat (first | refine blk_drewN ?_ _ | refine blk_drew ?_ | refine blk_alloc ?_ _)); exact BK235.out) hb); have n2_ := Aside0.mk (below_step (by repeat (first | (with_reducible first | exact HB.out | apply below_alloc | apply pw_below_drewN | apply below_drew1 | refine below_set ?_ GE235.out) | exact HB.out)) hb); clear HO_4; clear BK235; clear HB; have HO_4 := n0_; have BK235 := n1_; have HB := n2_; clear n0_ n1_ n2_; (try clear hb); (try clear hb2); (try clear hk); (try clear hi)) | ((with_reducible refine gate_callee (f := 28) rfl ?_); refine goesL_ (some 63) rfl rfl Try.func28 (by kernel_rfl) rfl #[.slice Ao12 t230.length co12, .float .f64 (fofint x9_3), .float .f64 (fval .quo (fofint (wrap64 ((Int.tmod t236 64) - 20))) (4643211215818981376 : Nat))] rfl (by (try simp only [List.map_toArray, List.map_cons, List.map_nil]); first | done | rfl | (simp only [List.length_drop, List.length_take]; rfl)) ?_; (with_reducible refine (impl_Drag.calls k3 _ _ t230 (fofint x9_3) (fval .quo (fofint (wrap64 ((Int.tmod t236 64) - 20))) (4643211215818981376 : Nat)) t244 _ ?side1 ?side2 A26.out).mono ?_); (case side1 => repeat (first | exact (Kd.R_reads' HO_4.out).2.2 | (with_reducible refine Kd.C_alloc ?_ _) | (with_reducible refine Kd.C_drewN ?_ _) | (with_reducible refine Kd.C_drew ?_))); (case side2 => exact (Kd.R_reads' HO_4.out).2.1); rintro e w30 ⟨rfl, hb⟩; refine ⟨_, rfl, ?_⟩; have n0_ := Aside0.mk (Kd.R_below (by (with_reducible repeat (first | apply Kd.R_alloc | apply Kd.R_drewN | apply Kd.R_drew)); exact HO_4.out) hb); have n1_ := Aside0.mk (blk_below (g := gb235) (o := .cells #[.float .f64 t228, .float .f64 t229] 27 (0, 0)) (by (with_reducible repeat (first | refine blk_drewN ?_ _ | refine blk_drew ?_ | refine blk_alloc ?_ _)); exact BK235.out) hb); have n2_ := Aside0.mk (below_step (by repeat (first | (with_reducible first | exact HB.out | apply below_alloc | apply pw_below_drewN | apply below_drew1 | refine below_set ?_ GE235.out) | exact HB.out)) hb); clear HO_4; clear BK235; clear HB; have HO_4 := n0_; have BK235 := n1_; have HB := n2_; clear n0_ n1_ n2_; (try clear hb); (try clear hb2); (try clear hk); (try clear hi)))
             go_roundg k3
             case measure => have := HJ7.out; have := HJ15.out; have := HK3.out; omega
             case rel => exact ⟨(wrap64 (x9_3 + 1)), (by first | rfl | (simp; done) | (simp [*]; done)), H', ⟨by have := HJ7.out; have := HJ15.out; have := HK3.out; omega⟩, ⟨by (with_reducible repeat (first | apply Kd.R_alloc | apply Kd.R_drewN | apply Kd.R_drew)); exact HO_4.out⟩, ⟨by (with_reducible repeat (first | refine blk_drewN ?_ _ | refine blk_drew ?_ | refine blk_alloc ?_ _)); exact BK235.out⟩, ⟨by repeat (first | (with_reducible first | exact HB.out | apply below_alloc | apply pw_below_drewN | apply below_drew1 | refine below_set ?_ GE235.out) | exact HB.out)⟩⟩
            ·rw [if_neg c27] at H
             have c27b0 : flt t243 t244 = false := by simpa using c27
             clear c27
             exact absurd (Option.some.inj H) (by decide)
           ·rw [if_neg c24] at H
            have c24b0 : decide (x9_3 ≤ 200) = false := decide_eq_false c24
            clear c24
            replace H := Option.bind_eq_some_iff.mp H
            obtain ⟨t240, A310, H⟩ := H
            replace H : (if fok .quo (fofint (Int.tmod t240 32)) (4643211215818981376 : Nat) = true then (if fok .add (fval .quo (fofint (wrap64 ((Int.tmod t236 64) - 20))) (4643211215818981376 : Nat)) (fval .quo (fofint (Int.tmod t240 32)) (4643211215818981376 : Nat)) = true then ((impl_Balance.f k3 t228 t229 t230 (fval .add (fval .quo (fofint (wrap64 ((Int.tmod t236 64) - 20))) (4643211215818981376 : Nat)) (fval .quo (fofint (Int.tmod t240 32)) (4643211215818981376 : Nat)))).bind fun t241 => (if t241 ≤ t237 then ((spec_Balance.f k3 t228 t229 t230 (fval .quo (fofint (wrap64 ((Int.tmod t236 64) - 20))) (4643211215818981376 : Nat))).bind fun t242 => (some (t237 == t242))) else (some false))) else (none)) else (none)) = some true := H
            have A31 := Aside0.mk A310
            clear A310
            by_cases c32 : fok .quo (fofint (Int.tmod t240 32)) (4643211215818981376 : Nat) = true
            ·rw [if_pos c32] at H
             have c32b0 := eq_true c32
             have c32b1 : decide (fok .quo (fofint (Int.tmod t240 32)) (4643211215818981376 : Nat) = true) = true := decide_eq_true c32
             clear c32
             by_cases c33 : fok .add (fval .quo (fofint (wrap64 ((Int.tmod t236 64) - 20))) (4643211215818981376 : Nat)) (fval .quo (fofint (Int.tmod t240 32)) (4643211215818981376 : Nat)) = true
             ·rw [if_pos c33] at H
              have c33b0 := eq_true c33
              have c33b1 : decide (fok .add (fval .quo (fofint (wrap64 ((Int.tmod t236 64) - 20))) (4643211215818981376 : Nat)) (fval .quo (fofint (Int.tmod t240 32)) (4643211215818981376 : Nat)) = true) = true := decide_eq_true c33
              clear c33
              replace H := Option.bind_eq_some_iff.mp H
              obtain ⟨t241, A340, H⟩ := H
              replace H : (if t241 ≤ t237 then ((spec_Balance.f k3 t228 t229 t230 (fval .quo (fofint (wrap64 ((Int.tmod t236 64) - 20))) (4643211215818981376 : Nat))).bind fun t242 => (some (t237 == t242))) else (some false)) = some true := H
              have A34 := Aside0.mk A340
              clear A340
              by_cases c35 : t241 ≤ t237
              ·rw [if_pos c35] at H
               have c35b0 : decide (t241 ≤ t237) = true := decide_eq_true c35
               clear c35
               replace H := Option.bind_eq_some_iff.mp H
               obtain ⟨t242, A360, H⟩ := H
               replace H : (some (t237 == t242)) = some true := H
               have A36 := Aside0.mk A360
               clear A360
               have HRT : ((t237 == t242)) = true := Option.some.inj H
               try go_wp2
               have n0_ := Aside0.mk (Kd.R_drew HO_4.out)
               have n1_ := Aside0.mk (blk_drew BK235.out)
               have n2_ := Aside0.mk (below_drew1 HB.out)
               clear HO_4
               clear BK235
               clear HB
               have HO_4 := n0_
               have BK235 := n1_
               have HB := n2_
               clear n0_ n1_ n2_
               refine start_ (n := 21) (S := fun w' => w'.cell? ⟨gb235, 0, none⟩ = some (.float .f64 t228) ∧ w'.cell? ⟨gb235, 1, none⟩ = some (.float .f64 t229)) (ds := []) #[false, false, false, false, false, false, false, false, false, false, false, false, false, false, false, false, false, false, false, false, false] (by kernel_rfl) rfl rfl ⟨(blk_cell BK235.out 0).trans rfl, (blk_cell BK235.out 1).trans rfl⟩ (fun hHeld => ?_); refine with_tabW laws_FnBalance.tab15 laws_FnBalance.bits15 (fun HT_ HW_ => ?_)
               generalize wr.drew = w37 at HO_4 BK235 HB hHeld ⊢
               refine pure_ (i := 1) (N := some 67) (v := ?_) (a' := ?_) #[false, true, false, false, false, false, false, false, false, false, false, false, false, false, false, false, false, false, false, false, false] rfl rfl (any_of HT_.out (by kernel_rfl)) (fun _ _ _ h => h) (Or.inl ⟨by rfl, ?_⟩) ?_ ?_
               rotate_left
               ·intro w'
                go_simp
                with_reducible rfl
               rotate_left
               ·simp only [Act.put, List.setIfInBounds_toArray, List.set_cons_zero, List.set_cons_succ, i64_w, i32_w]
                rfl
               refine pure_ (i := 2) (N := some 68) (v := ?_) (a' := ?_) #[false, true, true, false, false, false, false, false, false, false, false, false, false, false, false, false, false, false, false, false, false] rfl rfl (any_of HT_.out (by kernel_rfl)) (fun _ _ _ h => h) (Or.inl ⟨by rfl, ?_⟩) ?_ ?_
               rotate_left
               ·intro w'
                go_simp
                with_reducible rfl
               rotate_left
               ·simp only [Act.put, List.setIfInBounds_toArray, List.set_cons_zero, List.set_cons_succ, i64_w, i32_w]
                rfl
               refine pure_ (i := 3) (N := some 69) (v := ?_) (a' := ?_) #[false, true, true, true, false, false, false, false, false, false, false, false, false, false, false, false, false, false, false, false, false] rfl rfl (any_of HT_.out (by kernel_rfl)) (fun _ _ _ h => h) (Or.inl ⟨by rfl, ?_⟩) ?_ ?_
               rotate_left
               ·intro w'
                go_simp
                with_reducible rfl
               rotate_left
               ·simp only [Act.put, List.setIfInBounds_toArray, List.set_cons_zero, List.set_cons_succ, i64_w, i32_w]
                rfl
               refine pure_ (i := 10) (N := some 76) (v := ?_) (a' := ?_) #[false, true, true, true, false, false, false, false, false, false, true, false, false, false, false, false, false, false, false, false, false] rfl rfl (any_of HT_.out (by kernel_rfl)) (fun _ _ _ h => h) (Or.inl ⟨by rfl, ?_⟩) ?_ ?_
               rotate_left
               ·intro w'
                go_simp
                with_reducible rfl
               rotate_left
               ·simp only [Act.put, List.setIfInBounds_toArray, List.set_cons_zero, List.set_cons_succ, i64_w, i32_w]
                rfl
               refine take_ (i := 0) (N := some 66) (v := ?_) (a' := ?_) #[true, true, true, true, false, false, false, false, false, false, true, false, false, false, false, false, false, false, false, false, false] rfl rfl (take_ofW HT_.out HW_.out (by kernel_rfl)) (fun _ _ _ h => h) (Or.inl ⟨by rfl, ?_⟩) hHeld ?_ ?_
               rotate_left
               ·rintro w' ⟨s0, s1⟩
                go_simp
                with_reducible rfl
               rotate_left
               ·simp only [Act.put, List.setIfInBounds_toArray, List.set_cons_zero, List.set_cons_succ, i64_w, i32_w]
                rfl
               refine one_ (i := 4) (N := some 70) #[true, true, true, true, true, false, false, false, false, false, true, false, false, false, false, false, false, false, false, false, false] rfl rfl (one_of HT_.out (by kernel_rfl)) (by decide) (fun K hK => ?_)
               refine goes_ Try.func31 (by kernel_rfl) rfl #[.slice A0 l0.length c0, .int .i64 4] (by rfl) rfl rfl (by (try simp only [List.map_toArray, List.map_cons, List.map_nil]); first | done | rfl | (simp only [List.length_drop, List.length_take]; rfl)) ?_
               with_reducible refine (laws_at.calls _ _ l0 4 t240 _ ?side1 ?side2 A31.out).mono ?_
               (case side1 => repeat (first | exact (Kd.C_below HR0.out HB.out) | (with_reducible refine Kd.C_alloc ?_ _) | (with_reducible refine Kd.C_drewN ?_ _) | (with_reducible refine Kd.C_drew ?_)))
               (case side2 => exact HC0.out)
               rintro e w' ⟨rfl, ⟨nd, rfl⟩⟩
               refine ⟨_, rfl, ?_⟩
               refine hK.out _ _ ⟨(blk_cell BK235.out 0).trans rfl, (blk_cell BK235.out 1).trans rfl⟩ (fun hHeld => ?_)
               clear hK K
               refine norm_ (a' := ?_) ?_ ?_
               rotate_left
               ·show Act.put _ (some 70) _ = _
                simp only [Act.put, List.setIfInBounds_toArray, List.set_cons_zero, List.set_cons_succ, i64_w, i32_w]
                rfl
               refine pure_ (i := 5) (N := some 71) (v := ?_) (a' := ?_) #[true, true, true, true, true, true, false, false, false, false, true, false, false, false, false, false, false, false, false, false, false] rfl rfl (any_of HT_.out (by kernel_rfl)) (fun _ _ _ h => h) (Or.inl ⟨by rfl, ?_⟩) ?_ ?_
               rotate_left
               ·intro w'
                go_simp
                with_reducible rfl
               rotate_left
               ·simp only [Act.put, List.setIfInBounds_toArray, List.set_cons_zero, List.set_cons_succ, i64_w, i32_w]
                rfl
               refine pure_ (i := 6) (N := some 72) (v := ?_) (a' := ?_) #[true, true, true, true, true, true, true, false, false, false, true, false, false, false, false, false, false, false, false, false, false] rfl rfl (any_of HT_.out (by kernel_rfl)) (fun _ _ _ h => h) (Or.inl ⟨by rfl, ?_⟩) ?_ ?_
               rotate_left
               ·intro w'
                go_simp
                with_reducible rfl
               rotate_left
               ·simp only [Act.put, List.setIfInBounds_toArray, List.set_cons_zero, List.set_cons_succ, i64_w, i32_w]
                rfl
               refine pure_ (i := 7) (N := some 73) (v := ?_) (a' := ?_) #[true, true, true, true, true, true, true, true, false, false, true, false, false, false, false, false, false, false, false, false, false] rfl rfl (any_of HT_.out (by kernel_rfl)) (fun _ _ _ h => h) (Or.inl ⟨by rfl, ?_⟩) ?_ ?_
               rotate_left
               ·intro w'
                go_simp
                with_reducible rfl
               rotate_left
               ·simp only [Act.put, List.setIfInBounds_toArray, List.set_cons_zero, List.set_cons_succ, i64_w, i32_w]
                rfl
               refine pure_ (i := 8) (N := some 74) (v := ?_) (a' := ?_) #[true, true, true, true, true, true, true, true, true, false, true, false, false, false, false, false, false, false, false, false, false] rfl rfl (any_of HT_.out (by kernel_rfl)) (fun _ _ _ h => h) (Or.inl ⟨by rfl, ?_⟩) ?_ ?_
               rotate_left
               ·intro w'
                go_simp
                with_reducible rfl
               rotate_left
               ·simp only [Act.put, List.setIfInBounds_toArray, List.set_cons_zero, List.set_cons_succ, i64_w, i32_w]
                rfl
               refine one_ (i := 9) (N := some 75) #[true, true, true, true, true, true, true, true, true, true, true, false, false, false, false, false, false, false, false, false, false] rfl rfl (one_of HT_.out (by kernel_rfl)) (by decide) (fun K hK => ?_)
               refine goes_ Try.func32 (by kernel_rfl) rfl #[.agg #[.float .f64 t228, .float .f64 t229], .slice Ao12 t230.length co12, .float .f64 (fval .add (fval .quo (fofint (wrap64 ((Int.tmod t236 64) - 20))) (4643211215818981376 : Nat)) (fval .quo (fofint (Int.tmod t240 32)) (4643211215818981376 : Nat)))] (by rfl) rfl rfl (by (try simp only [List.map_toArray, List.map_cons, List.map_nil]); first | done | rfl | (simp only [List.length_drop, List.length_take]; rfl)) ?_
               with_reducible refine (impl_Balance.calls k3 t228 t229 _ _ t230 (fval .add (fval .quo (fofint (wrap64 ((Int.tmod t236 64) - 20))) (4643211215818981376 : Nat)) (fval .quo (fofint (Int.tmod t240 32)) (4643211215818981376 : Nat))) t241 _ ?side1 ?side2 A34.out).mono ?_
               (case side1 => repeat (first | exact (Kd.R_reads' HO_4.out).2.2 | (with_reducible refine Kd.C_alloc ?_ _) | (with_reducible refine Kd.C_drewN ?_ _) | (with_reducible refine Kd.C_drew ?_)))
               (case side2 => exact (Kd.R_reads' HO_4.out).2.1)
               rintro e w38 ⟨rfl, hb⟩
               refine ⟨_, rfl, ?_⟩
               have n0_ := Aside0.mk (Kd.R_below (by (with_reducible repeat (first | apply Kd.R_alloc | apply Kd.R_drewN | apply Kd.R_drew)); exact HO_4.out) hb)
               have n1_ := Aside0.mk (blk_below (g := gb235) (o := .cells #[.float .f64 t228, .float .f64 t229] 27 (0, 0)) (by (with_reducible repeat (first | refine blk_drewN ?_ _ | refine blk_drew ?_ | refine blk_alloc ?_ _)); exact BK235.out) hb)
               have n2_ := Aside0.mk (below_step (by repeat (first | (with_reducible first | exact HB.out | apply below_alloc | apply pw_below_drewN | apply below_drew1 | refine below_set ?_ GE235.out) | exact HB.out)) hb)
               clear HO_4
               clear BK235
               clear HB
               have HO_4 := n0_
               have BK235 := n1_
               have HB := n2_
               clear n0_ n1_ n2_
               (try clear hb)
               (try clear hb2)
               (try clear hk)
               (try clear hi)
               refine hK.out _ _ ⟨(blk_cell BK235.out 0).trans rfl, (blk_cell BK235.out 1).trans rfl⟩ (fun hHeld => ?_)
               clear hK K
               refine norm_ (a' := ?_) ?_ ?_
               rotate_left
               ·show Act.put _ (some 75) _ = _
                simp only [Act.put, List.setIfInBounds_toArray, List.set_cons_zero, List.set_cons_succ, i64_w, i32_w]
                rfl
               refine pure_ (i := 11) (N := some 77) (v := ?_) (a' := ?_) #[true, true, true, true, true, true, true, true, true, true, true, true, false, false, false, false, false, false, false, false, false] rfl rfl (any_of HT_.out (by kernel_rfl)) (fun _ _ _ h => h) (Or.inl ⟨by rfl, ?_⟩) ?_ ?_
               rotate_left
               ·intro w'
                go_simp
                with_reducible rfl
               rotate_left
               ·simp only [Act.put, List.setIfInBounds_toArray, List.set_cons_zero, List.set_cons_succ, i64_w, i32_w]
                rfl
               refine pure_ (i := 12) (N := some 78) (v := ?_) (a' := ?_) #[true, true, true, true, true, true, true, true, true, true, true, true, true, false, false, false, false, false, false, false, false] rfl rfl (any_of HT_.out (by kernel_rfl)) (fun _ _ _ h => h) (Or.inl ⟨by rfl, ?_⟩) ?_ ?_
               rotate_left
               ·intro w'
                go_simp
                with_reducible rfl
               rotate_left
               ·simp only [Act.put, List.setIfInBounds_toArray, List.set_cons_zero, List.set_cons_succ, i64_w, i32_w]
                rfl
               refine pure_ (i := 13) (N := some 79) (v := ?_) (a' := ?_) #[true, true, true, true, true, true, true, true, true, true, true, true, true, true, false, false, false, false, false, false, false] rfl rfl (any_of HT_.out (by kernel_rfl)) (fun _ _ _ h => h) (Or.inl ⟨by rfl, ?_⟩) ?_ ?_
               rotate_left
               ·intro w'
                go_simp
                with_reducible rfl
               rotate_left
               ·simp only [Act.put, List.setIfInBounds_toArray, List.set_cons_zero, List.set_cons_succ, i64_w, i32_w]
                rfl
               refine pure_ (i := 15) (N := some 81) (v := ?_) (a' := ?_) #[true, true, true, true, true, true, true, true, true, true, true, true, true, true, false, true, false, false, false, false, false] rfl rfl (any_of HT_.out (by kernel_rfl)) (fun _ _ _ h => h) (Or.inl ⟨by rfl, ?_⟩) ?_ ?_
               rotate_left
               ·intro w'
                go_simp
                with_reducible rfl
               rotate_left
               ·simp only [Act.put, List.setIfInBounds_toArray, List.set_cons_zero, List.set_cons_succ, i64_w, i32_w]
                rfl
               refine pure_ (i := 16) (N := some 82) (v := ?_) (a' := ?_) #[true, true, true, true, true, true, true, true, true, true, true, true, true, true, false, true, true, false, false, false, false] rfl rfl (any_of HT_.out (by kernel_rfl)) (fun _ _ _ h => h) (Or.inl ⟨by rfl, ?_⟩) ?_ ?_
               rotate_left
               ·intro w'
                go_simp
                with_reducible rfl
               rotate_left
               ·simp only [Act.put, List.setIfInBounds_toArray, List.set_cons_zero, List.set_cons_succ, i64_w, i32_w]
                rfl
               refine take_ (i := 14) (N := some 80) (v := ?_) (a' := ?_) #[true, true, true, true, true, true, true, true, true, true, true, true, true, true, true, true, true, false, false, false, false] rfl rfl (take_ofW HT_.out HW_.out (by kernel_rfl)) (fun _ _ _ h => h) (Or.inl ⟨by rfl, ?_⟩) hHeld ?_ ?_
               rotate_left
               ·rintro w' ⟨s0, s1⟩
                go_simp
                with_reducible rfl
               rotate_left
               ·simp only [Act.put, List.setIfInBounds_toArray, List.set_cons_zero, List.set_cons_succ, i64_w, i32_w]
                rfl
               refine one_ (i := 17) (N := some 83) #[true, true, true, true, true, true, true, true, true, true, true, true, true, true, true, true, true, true, false, false, false] rfl rfl (one_of HT_.out (by kernel_rfl)) (by decide) (fun K hK => ?_)
               refine goes_ Try.func34 (by kernel_rfl) rfl #[.agg #[.float .f64 t228, .float .f64 t229], .slice Ao12 t230.length co12, .float .f64 (fval .quo (fofint (wrap64 ((Int.tmod t236 64) - 20))) (4643211215818981376 : Nat))] (by rfl) rfl rfl (by (try simp only [List.map_toArray, List.map_cons, List.map_nil]); first | done | rfl | (simp only [List.length_drop, List.length_take]; rfl)) ?_
               with_reducible refine (spec_Balance.calls k3 t228 t229 _ _ t230 (fval .quo (fofint (wrap64 ((Int.tmod t236 64) - 20))) (4643211215818981376 : Nat)) t242 _ ?side1 ?side2 A36.out).mono ?_
               (case side1 => repeat (first | exact (Kd.R_reads' HO_4.out).2.2 | (with_reducible refine Kd.C_alloc ?_ _) | (with_reducible refine Kd.C_drewN ?_ _) | (with_reducible refine Kd.C_drew ?_)))
               (case side2 => exact (Kd.R_reads' HO_4.out).2.1)
               rintro e w39 ⟨rfl, hb⟩
               refine ⟨_, rfl, ?_⟩
               have n0_ := Aside0.mk (Kd.R_below (by (with_reducible repeat (first | apply Kd.R_alloc | apply Kd.R_drewN | apply Kd.R_drew)); exact HO_4.out) hb)
               have n1_ := Aside0.mk (blk_below (g := gb235) (o := .cells #[.float .f64 t228, .float .f64 t229] 27 (0, 0)) (by (with_reducible repeat (first | refine blk_drewN ?_ _ | refine blk_drew ?_ | refine blk_alloc ?_ _)); exact BK235.out) hb)
               have n2_ := Aside0.mk (below_step (by repeat (first | (with_reducible first | exact HB.out | apply below_alloc | apply pw_below_drewN | apply below_drew1 | refine below_set ?_ GE235.out) | exact HB.out)) hb)
               clear HO_4
               clear BK235
               clear HB
               have HO_4 := n0_
               have BK235 := n1_
               have HB := n2_
               clear n0_ n1_ n2_
               (try clear hb)
               (try clear hb2)
               (try clear hk)
               (try clear hi)
               refine hK.out _ _ ⟨(blk_cell BK235.out 0).trans rfl, (blk_cell BK235.out 1).trans rfl⟩ (fun hHeld => ?_)
               clear hK K
               refine norm_ (a' := ?_) ?_ ?_
               rotate_left
               ·show Act.put _ (some 83) _ = _
                simp only [Act.put, List.setIfInBounds_toArray, List.set_cons_zero, List.set_cons_succ, i64_w, i32_w]
                rfl
               refine pure_ (i := 18) (N := some 84) (v := ?_) (a' := ?_) #[true, true, true, true, true, true, true, true, true, true, true, true, true, true, true, true, true, true, true, false, false] rfl rfl (any_of HT_.out (by kernel_rfl)) (fun _ _ _ h => h) (Or.inl ⟨by rfl, ?_⟩) ?_ ?_
               rotate_left
               ·intro w'
                go_simp
                with_reducible rfl
               rotate_left
               ·simp only [Act.put, List.setIfInBounds_toArray, List.set_cons_zero, List.set_cons_succ, i64_w, i32_w]
                rfl
               refine pure_ (i := 19) (N := some 85) (v := ?_) (a' := ?_) #[true, true, true, true, true, true, true, true, true, true, true, true, true, true, true, true, true, true, true, true, false] rfl rfl (any_of HT_.out (by kernel_rfl)) (fun _ _ _ h => h) (Or.inl ⟨by rfl, ?_⟩) ?_ ?_
               rotate_left
               ·intro w'
                go_simp
                with_reducible rfl
               rotate_left
               ·simp only [Act.put, List.setIfInBounds_toArray, List.set_cons_zero, List.set_cons_succ, i64_w, i32_w]
                rfl
               refine pure_ (i := 20) (N := some 2) (v := ?_) (a' := ?_) #[true, true, true, true, true, true, true, true, true, true, true, true, true, true, true, true, true, true, true, true, true] rfl rfl (any_of HT_.out (by kernel_rfl)) (fun _ _ _ h => h) (Or.inl ⟨by rfl, ?_⟩) ?_ ?_
               rotate_left
               ·intro w'
                go_simp
                with_reducible rfl
               rotate_left
               ·simp only [Act.put, List.setIfInBounds_toArray, List.set_cons_zero, List.set_cons_succ, i64_w, i32_w]
                rfl
               refine done_ (done_of HT_.out (by kernel_rfl)) ?_
               try go_wp2
               go_ret
               exact ⟨by first | rfl | (simp [errW_none, errW_some] <;> rfl) | (simp [*, errW_none, errW_some] <;> rfl), by repeat (first | (with_reducible first | exact HB.out | apply below_alloc | apply pw_below_drewN | apply below_drew1 | refine below_set ?_ GE235.out) | exact HB.out)⟩
              ·rw [if_neg c35] at H
               have c35b0 : decide (t241 ≤ t237) = false := decide_eq_false c35
               clear c35
               exact absurd (Option.some.inj H) (by decide)
             ·rw [if_neg c33] at H
              exact absurd H (by simp)
            ·rw [if_neg c32] at H
             exact absurd H (by simp)
  ·rw [if_neg c6] at H
   exact absurd H (by simp)

/-- THE ONE PURE STATEMENT of laws_FnBalance: yours. -/
def laws_FnBalance.Pure : Prop := ∀ (l0 : List Int), l0.length ≤ maxLen → l0.length * 1 ≤ 140737488351232 → (∀ x ∈ l0, (Lit.int .u8 x).wf = true) → ∃ k, laws_FnBalance.f k l0 = some true
theorem laws_FnBalance.walk (P : laws_FnBalance.Pure) (a0 : Option Addr) (len0 cap0 : Nat) (z0 : List Int) (w : World) (w0 : (a0 = none ∧ len0 = 0 ∧ cap0 = 0 ∧ z0 = []) ∨ ∃ x, a0 = some x ∧ len0 ≤ cap0 ∧ cap0 ≤ maxLen ∧ z0.length = cap0 ∧ (∀ i, i < z0.length → w.cell? (x.add i) = some (.int .u8 (z0.getD i 0))) ∧ ∀ n ∈ z0, (Lit.int .u8 n).wf = true) (y0 : len0 * 1 ≤ 140737488351232) :
  Calls Try.prog 7 #[.slice a0 len0 cap0] w fun e w' => e = .returned (.bool true) ∧ Below w.heap.size w w' := by
 obtain ⟨l0, rfl, hr0, hm0, hw0, hc0⟩ := ReadsInt.ofRowC w0
 obtain ⟨k, h⟩ := P l0 hm0 y0 hw0
 refine (laws_FnBalance.calls k _ _ l0 w (Kd.C_of_reads (d := (0 : Int)) (h1 := fun _ => rfl) hr0) hc0 h).mono ?_
 rintro e w' ⟨rfl, hd⟩
 exact ⟨rfl, hd⟩

end Go.Proofs.Ytajphnjooknjdaa.PFnBalance
