-- Written by a program of this session (wip/tools/fltprint.py: the kit's printer, taught more).
import Derived.Test.YtmbonjljbienkaaPFnFasterx0
import Derived.Test.YtmbonjljbienkaaPFnFasterx1
import Derived.Test.YtmbonjljbienkaaPFnFasterx4
import Derived.Test.YtmbonjljbienkaaPFnFasterx5
namespace Go.Proofs.Ytmbonjljbienkaa.PFnFaster
open Go.RowKit Go.Proofs.YtmbonjljbienkaaW.PrintWords Go.Proofs.YtmbonjljbienkaaW.PrintLast Go.Proofs.YtmbonjljbienkaaW.PrintMore
attribute [local go_sem] max2_int min2_int max_two min_two max_three min_three max_four min_four   -- for this text's walks alone
set_option linter.unusedVariables false
set_option linter.unusedSimpArgs false

/-! ### laws_FnFaster: function 3 -/
def laws_FnFaster.j0 : Nat → List Int → List Int → Int → Bool → Int → Int → Int → Option (Bool)
 | 0, _, _, _, _, _, _, _ => none
 | k + 1, x0, x4, x5, x48, x234000, x234001, x234002 => if x48 = true then (some false) else ((laws_at.f x0 2).bind fun t240 => ((laws_at.f x0 3).bind fun t241 => ((laws_at.f x0 4).bind fun t242 => ((impl_RunTime.f k (wrap64 (x234000 + (Int.tmod t240 20))) (wrap64 (x234001 + (Int.tmod t241 20))) (wrap64 (x234002 + (Int.tmod t242 20))) x4).bind fun t244 => (if t244 > x5 then (some false) else ((some (([] : List Int) : List Int)).bind fun y245 => (if y245.length + x4.length < 17592186044416 then ((some (y245 ++ x4 : List Int)).bind fun y248 => ((laws_at.f x0 5).bind fun t251 => (if (y248.length : Int) = 0 then (none) else (if 0 ≤ (Int.tmod t251 (y248.length : Int)) then (if (Int.tmod t251 (y248.length : Int)) < (y248.length : Int) then ((laws_at.f x0 6).bind fun t253 => ((impl_RunTime.f k x234000 x234001 x234002 (y248.set ((Int.tmod t251 (y248.length : Int)) : Int).toNat (wrap64 ((wrap64 ((rd y248 (Int.tmod t251 (y248.length : Int))) + 1)) + (Int.tmod t253 20))))).bind fun t255 => (if t255 > x5 then (some false) else (if (x4.length : Int) < 2 then ((impl_WithStop.f k x234000 x234001 x234002 x4 1).bind fun t256 => (some (t256 == (-1)))) else ((laws_at.f x0 7).bind fun t257 => (if (wrap64 ((x4.length : Int) - 1)) = 0 then (none) else ((impl_WithStop.f k x234000 x234001 x234002 x4 (wrap64 (1 + (Int.tmod t257 (wrap64 ((x4.length : Int) - 1)))))).bind fun t258 => (if t258 ≥ x5 then ((impl_WithStop.f k x234000 x234001 x234002 x4 (wrap64 (1 + (Int.tmod t257 (wrap64 ((x4.length : Int) - 1)))))).bind fun t259 => (if 0 ≤ (wrap64 (1 + (Int.tmod t257 (wrap64 ((x4.length : Int) - 1))))) then (if (wrap64 (1 + (Int.tmod t257 (wrap64 ((x4.length : Int) - 1))))) ≤ (x4.length : Int) then ((impl_RunTime.f k x234000 x234001 x234002 (x4.take ((wrap64 (1 + (Int.tmod t257 (wrap64 ((x4.length : Int) - 1))))) : Int).toNat)).bind fun t264 => ((impl_RunTime.f k x234000 x234001 x234002 (x4.drop ((wrap64 (1 + (Int.tmod t257 (wrap64 ((x4.length : Int) - 1))))) : Int).toNat)).bind fun t269 => (some (t259 == (wrap64 (t264 + t269)))))) else (none)) else (none))) else (some false))))))))) else (none)) else (none))))) else (none))))))))
def laws_FnFaster.f (k : Nat) (l0 : List Int) : Option (Bool) := (laws_big.f l0).bind fun t226 => (if t226 = true then (some true) else ((spec_DrawRightCourse.f k l0).bind fun bt227 => ((impl_RunTime.f k bt227.1 bt227.2.1 bt227.2.2.1 bt227.2.2.2).bind fun t234 => ((impl_Passing.f k bt227.1 bt227.2.1 bt227.2.2.1 bt227.2.2.2).bind fun t235 => (if t234 < 0 then (laws_FnFaster.j0 k l0 bt227.2.2.2 t234 true bt227.1 bt227.2.1 bt227.2.2.1) else (if (t235.length : Int) = (wrap64 ((bt227.2.2.2.length : Int) + 1)) then (if 0 ≤ (bt227.2.2.2.length : Int) then (if (bt227.2.2.2.length : Int) < (t235.length : Int) then (if (rd t235 (bt227.2.2.2.length : Int)) = t234 then (if 0 < (t235.length : Int) then (laws_FnFaster.j0 k l0 bt227.2.2.2 t234 ((rd t235 0) != 0) bt227.1 bt227.2.1 bt227.2.2.1) else (none)) else (laws_FnFaster.j0 k l0 bt227.2.2.2 t234 true bt227.1 bt227.2.1 bt227.2.2.1)) else (none)) else (none)) else (laws_FnFaster.j0 k l0 bt227.2.2.2 t234 true bt227.1 bt227.2.1 bt227.2.2.1)))))))
theorem laws_FnFaster.mono_l : ∀ k, (∀ y0 y1 y2 y3 y4 y5 y6, LeO (laws_FnFaster.j0 k y0 y1 y2 y3 y4 y5 y6) (laws_FnFaster.j0 (k + 1) y0 y1 y2 y3 y4 y5 y6))
 | 0 => fun _ _ _ _ _ _ _ r h => by simp [laws_FnFaster.j0] at h
 | k + 1 => by
  have ih0 := laws_FnFaster.mono_l k
  ·intro y0 y1 y2 y3 y4 y5 y6
   unfold laws_FnFaster.j0
   repeat' first
   | (with_reducible exact ih0 _ _ _ _ _ _ _)
   | (with_reducible exact impl_Passing.mono _ _ _ _ _)
   | (with_reducible exact impl_RunTime.mono _ _ _ _ _)
   | (with_reducible exact impl_WithStop.mono _ _ _ _ _ _)
   | (with_reducible exact spec_DrawRightCourse.mono _ _)
   | (with_reducible exact LeO.refl _)
   | (with_reducible exact LeO.none _)
   | (with_reducible refine LeO.ite ?_ ?_)
   | (with_reducible refine LeO.bind ?_ (fun _ => ?_))
   | exact ih0 _ _ _ _ _ _ _
   | exact impl_Passing.mono _ _ _ _ _
   | exact impl_RunTime.mono _ _ _ _ _
   | exact impl_WithStop.mono _ _ _ _ _ _
   | exact spec_DrawRightCourse.mono _ _
   | exact LeO.none _
   | refine LeO.ite ?_ ?_
   | refine LeO.bind ?_ (fun _ => ?_)
theorem laws_FnFaster.mono : ∀ a0 k, LeO (laws_FnFaster.f k a0) (laws_FnFaster.f (k + 1) a0) := by
 intro a0 k
 have ih0 := laws_FnFaster.mono_l k
 unfold laws_FnFaster.f
 repeat' first
   | (with_reducible exact ih0 _ _ _ _ _ _ _)
   | (with_reducible exact impl_Passing.mono _ _ _ _ _)
   | (with_reducible exact impl_RunTime.mono _ _ _ _ _)
   | (with_reducible exact impl_WithStop.mono _ _ _ _ _ _)
   | (with_reducible exact spec_DrawRightCourse.mono _ _)
   | (with_reducible exact LeO.refl _)
   | (with_reducible exact LeO.none _)
   | (with_reducible refine LeO.ite ?_ ?_)
   | (with_reducible refine LeO.bind ?_ (fun _ => ?_))
   | exact ih0 _ _ _ _ _ _ _
   | exact impl_Passing.mono _ _ _ _ _
   | exact impl_RunTime.mono _ _ _ _ _
   | exact impl_WithStop.mono _ _ _ _ _ _
   | exact spec_DrawRightCourse.mono _ _
   | exact LeO.none _
   | refine LeO.ite ?_ ?_
   | refine LeO.bind ?_ (fun _ => ?_)
def laws_FnFaster.T8 : Bool × List (List Nat × List Nat) := (true, [([], []), ([0], [0]), ([], []), ([2], [2]), ([3], [3]), ([1, 4], [1, 4]), ([], []), ([6], [6]), ([], []), ([8, 3], [8]), ([9], [9]), ([7, 10], [7, 10]), ([], []), ([12], [12]), ([], []), ([14, 9], [14]), ([15], [15]), ([13, 16], [13, 16]), ([5, 11, 17], [5, 11, 17]), ([], []), ([19, 18, 15, 0, 1, 2, 3, 4, 5, 6, 7, 8, 9, 10, 11, 12, 13, 14, 15, 16, 17, 18, 19], [18, 19])])
def laws_FnFaster.B8 : List Nat := [0, 1, 0, 4, 12, 31, 0, 64, 0, 268, 780, 1996, 0, 4096, 0, 17164, 49932, 127756, 262143, 0, 1048575]
theorem laws_FnFaster.tab8 : rtab .any (opsOf Try.f3 8) = laws_FnFaster.T8 := by kernel_rfl
theorem laws_FnFaster.bits8 : waitsOk laws_FnFaster.T8.2 laws_FnFaster.B8 = true := by kernel_rfl
def laws_FnFaster.T13 : Bool × List (List Nat × List Nat) := (true, [([], []), ([], []), ([], []), ([], []), ([2, 3], [2, 3]), ([4], [4]), ([5], [5]), ([], []), ([7], [7]), ([8], [8]), ([6, 9], [6, 9]), ([0, 1, 0, 1, 2, 3, 4, 5, 6, 7, 8, 9, 10], [0, 1]), ([11, 10, 8, 0, 1, 2, 3, 4, 5, 6, 7, 8, 9, 10], [10, 11])])
def laws_FnFaster.B13 : List Nat := [0, 0, 0, 0, 12, 28, 60, 0, 128, 384, 1020, 2047, 4095]
theorem laws_FnFaster.tab13 : rtab .any (opsOf Try.f3 13) = laws_FnFaster.T13 := by kernel_rfl
theorem laws_FnFaster.bits13 : waitsOk laws_FnFaster.T13.2 laws_FnFaster.B13 = true := by kernel_rfl
def laws_FnFaster.T19 : Bool × List (List Nat × List Nat) := (true, [([], []), ([], []), ([], []), ([0, 1, 2], [0, 1, 2]), ([], []), ([3, 4], [3, 4]), ([5, 3], [5]), ([6], [6]), ([6], [6]), ([6], [6]), ([7, 8, 9, 6, 6], [6, 7, 8, 9]), ([6], [6]), ([6], [6]), ([6], [6]), ([12, 13, 6], [6, 12, 13]), ([11, 14, 10, 6], [6, 11, 14]), ([6], [6]), ([6], [6]), ([6], [6]), ([17, 18, 6], [6, 17, 18]), ([16, 19, 15, 6], [6, 16, 19]), ([15, 20, 6], [6, 15, 20]), ([10, 21, 6], [6, 10, 21]), ([6, 22], [6, 22]), ([23, 20, 0, 1, 2, 3, 4, 5, 6, 7, 8, 9, 10, 11, 12, 13, 14, 15, 16, 17, 18, 19, 20, 21, 22, 23], [23])])
def laws_FnFaster.B19 : List Nat := [0, 0, 0, 7, 0, 31, 63, 127, 127, 127, 1023, 127, 127, 127, 12415, 32767, 127, 127, 127, 393343, 1048575, 2097151, 4194303, 8388607, 16777215]
theorem laws_FnFaster.tab19 : rtab .any (opsOf Try.f3 19) = laws_FnFaster.T19 := by kernel_rfl
theorem laws_FnFaster.bits19 : waitsOk laws_FnFaster.T19.2 laws_FnFaster.B19 = true := by kernel_rfl
set_option maxHeartbeats 8000000 in
set_option maxRecDepth 100000 in
theorem laws_FnFaster.calls (k : Nat) (A0 : Option Addr) (c0 : Nat) (l0 : List Int) (w : World) (hr0 : Kd.C (Kd.int .u8) w A0 l0.length l0) (hc0 : l0.length ≤ c0) (h : laws_FnFaster.f k l0 = some true) :
  Calls Try.prog 3 #[.slice A0 l0.length c0] w fun e w' => e = .returned (.bool true) ∧ Below w.heap.size w w' := by
 have hu25 := Try.underlying25
 have HR0 := Aside0.mk hr0
 have HC0 := Aside0.mk hc0
 clear hr0 hc0
 have HB := Aside0.mk (Below.refl w.heap.size w)
 have H : ((laws_big.f l0).bind fun t226 => (if t226 = true then (some true) else ((spec_DrawRightCourse.f k l0).bind fun bt227 => ((impl_RunTime.f k bt227.1 bt227.2.1 bt227.2.2.1 bt227.2.2.2).bind fun t234 => ((impl_Passing.f k bt227.1 bt227.2.1 bt227.2.2.1 bt227.2.2.2).bind fun t235 => (if t234 < 0 then (laws_FnFaster.j0 k l0 bt227.2.2.2 t234 true bt227.1 bt227.2.1 bt227.2.2.1) else (if (t235.length : Int) = (wrap64 ((bt227.2.2.2.length : Int) + 1)) then (if 0 ≤ (bt227.2.2.2.length : Int) then (if (bt227.2.2.2.length : Int) < (t235.length : Int) then (if (rd t235 (bt227.2.2.2.length : Int)) = t234 then (if 0 < (t235.length : Int) then (laws_FnFaster.j0 k l0 bt227.2.2.2 t234 ((rd t235 0) != 0) bt227.1 bt227.2.1 bt227.2.2.1) else (none)) else (laws_FnFaster.j0 k l0 bt227.2.2.2 t234 true bt227.1 bt227.2.1 bt227.2.2.1)) else (none)) else (none)) else (laws_FnFaster.j0 k l0 bt227.2.2.2 t234 true bt227.1 bt227.2.1 bt227.2.2.1)))))))) = some true := h
 clear h
 replace H := Option.bind_eq_some_iff.mp H
 obtain ⟨t226, A20, H⟩ := H
 replace H : (if t226 = true then (some true) else ((spec_DrawRightCourse.f k l0).bind fun bt227 => ((impl_RunTime.f k bt227.1 bt227.2.1 bt227.2.2.1 bt227.2.2.2).bind fun t234 => ((impl_Passing.f k bt227.1 bt227.2.1 bt227.2.2.1 bt227.2.2.2).bind fun t235 => (if t234 < 0 then (laws_FnFaster.j0 k l0 bt227.2.2.2 t234 true bt227.1 bt227.2.1 bt227.2.2.1) else (if (t235.length : Int) = (wrap64 ((bt227.2.2.2.length : Int) + 1)) then (if 0 ≤ (bt227.2.2.2.length : Int) then (if (bt227.2.2.2.length : Int) < (t235.length : Int) then (if (rd t235 (bt227.2.2.2.length : Int)) = t234 then (if 0 < (t235.length : Int) then (laws_FnFaster.j0 k l0 bt227.2.2.2 t234 ((rd t235 0) != 0) bt227.1 bt227.2.1 bt227.2.2.1) else (none)) else (laws_FnFaster.j0 k l0 bt227.2.2.2 t234 true bt227.1 bt227.2.1 bt227.2.2.1)) else (none)) else (none)) else (laws_FnFaster.j0 k l0 bt227.2.2.2 t234 true bt227.1 bt227.2.1 bt227.2.2.1))))))) = some true := H
 have A2 := Aside0.mk A20
 clear A20
 by_cases c3 : t226 = true
 ·subst c3
  have H1 : (some true) = some true := by (first | (rw [if_pos rfl] at H; exact H) | rfl)
  clear H
  have H := H1
  clear H1
  clear H
  go_enter Try.func3, Try.ntmps3
  go_wp2_with (first | ((with_reducible refine gate_callee (f := 6) rfl ?_); refine goesL_ (some 12) rfl rfl Try.func6 (by kernel_rfl) rfl #[.slice A0 l0.length c0] rfl (by (try simp only [List.map_toArray, List.map_cons, List.map_nil]); first | done | rfl | (simp only [List.length_drop, List.length_take]; rfl)) ?_; (with_reducible refine (laws_big.calls _ _ l0 true _ ?side1 ?side2 A2.out).mono ?_); (case side1 => repeat (first | exact HR0.out | (with_reducible refine Kd.C_alloc ?_ _) | (with_reducible refine Kd.C_drewN ?_ _) | (with_reducible refine Kd.C_drew ?_))); (case side2 => exact HC0.out); rintro e w' ⟨rfl, ⟨nd, rfl⟩⟩; refine ⟨_, rfl, ?_⟩))
  go_ret
  exact ⟨by first | rfl | (simp [errW_none, errW_some] <;> rfl) | (simp [*, errW_none, errW_some] <;> rfl), by repeat (first | (with_reducible first | exact HB.out | apply below_alloc | apply pw_below_drewN | apply below_drew1) | exact HB.out)⟩
 ·replace c3 := Bool.eq_false_iff.mpr c3
  subst c3
  have H1 : ((spec_DrawRightCourse.f k l0).bind fun bt227 => ((impl_RunTime.f k bt227.1 bt227.2.1 bt227.2.2.1 bt227.2.2.2).bind fun t234 => ((impl_Passing.f k bt227.1 bt227.2.1 bt227.2.2.1 bt227.2.2.2).bind fun t235 => (if t234 < 0 then (laws_FnFaster.j0 k l0 bt227.2.2.2 t234 true bt227.1 bt227.2.1 bt227.2.2.1) else (if (t235.length : Int) = (wrap64 ((bt227.2.2.2.length : Int) + 1)) then (if 0 ≤ (bt227.2.2.2.length : Int) then (if (bt227.2.2.2.length : Int) < (t235.length : Int) then (if (rd t235 (bt227.2.2.2.length : Int)) = t234 then (if 0 < (t235.length : Int) then (laws_FnFaster.j0 k l0 bt227.2.2.2 t234 ((rd t235 0) != 0) bt227.1 bt227.2.1 bt227.2.2.1) else (none)) else (laws_FnFaster.j0 k l0 bt227.2.2.2 t234 true bt227.1 bt227.2.1 bt227.2.2.1)) else (none)) else (none)) else (laws_FnFaster.j0 k l0 bt227.2.2.2 t234 true bt227.1 bt227.2.1 bt227.2.2.1)))))) = some true := by (first | (rw [if_neg (show ¬ (false = true) by decide)] at H; exact H) | rfl)
  clear H
  have H := H1
  clear H1
  replace H := Option.bind_eq_some_iff.mp H
  obtain ⟨⟨t227, t228, t229, t230⟩, A40, H⟩ := H
  replace H : ((impl_RunTime.f k t227 t228 t229 t230).bind fun t234 => ((impl_Passing.f k t227 t228 t229 t230).bind fun t235 => (if t234 < 0 then (laws_FnFaster.j0 k l0 t230 t234 true t227 t228 t229) else (if (t235.length : Int) = (wrap64 ((t230.length : Int) + 1)) then (if 0 ≤ (t230.length : Int) then (if (t230.length : Int) < (t235.length : Int) then (if (rd t235 (t230.length : Int)) = t234 then (if 0 < (t235.length : Int) then (laws_FnFaster.j0 k l0 t230 t234 ((rd t235 0) != 0) t227 t228 t229) else (none)) else (laws_FnFaster.j0 k l0 t230 t234 true t227 t228 t229)) else (none)) else (none)) else (laws_FnFaster.j0 k l0 t230 t234 true t227 t228 t229))))) = some true := H
  have A4 := Aside0.mk A40
  clear A40
  replace H := Option.bind_eq_some_iff.mp H
  obtain ⟨t234, A50, H⟩ := H
  replace H : ((impl_Passing.f k t227 t228 t229 t230).bind fun t235 => (if t234 < 0 then (laws_FnFaster.j0 k l0 t230 t234 true t227 t228 t229) else (if (t235.length : Int) = (wrap64 ((t230.length : Int) + 1)) then (if 0 ≤ (t230.length : Int) then (if (t230.length : Int) < (t235.length : Int) then (if (rd t235 (t230.length : Int)) = t234 then (if 0 < (t235.length : Int) then (laws_FnFaster.j0 k l0 t230 t234 ((rd t235 0) != 0) t227 t228 t229) else (none)) else (laws_FnFaster.j0 k l0 t230 t234 true t227 t228 t229)) else (none)) else (none)) else (laws_FnFaster.j0 k l0 t230 t234 true t227 t228 t229)))) = some true := H
  have A5 := Aside0.mk A50
  clear A50
  replace H := Option.bind_eq_some_iff.mp H
  obtain ⟨t235, A60, H⟩ := H
  replace H : (if t234 < 0 then (laws_FnFaster.j0 k l0 t230 t234 true t227 t228 t229) else (if (t235.length : Int) = (wrap64 ((t230.length : Int) + 1)) then (if 0 ≤ (t230.length : Int) then (if (t230.length : Int) < (t235.length : Int) then (if (rd t235 (t230.length : Int)) = t234 then (if 0 < (t235.length : Int) then (laws_FnFaster.j0 k l0 t230 t234 ((rd t235 0) != 0) t227 t228 t229) else (none)) else (laws_FnFaster.j0 k l0 t230 t234 true t227 t228 t229)) else (none)) else (none)) else (laws_FnFaster.j0 k l0 t230 t234 true t227 t228 t229))) = some true := H
  have A6 := Aside0.mk A60
  clear A60
  have HC7 := Aside0.mk H
  clear H
  go_enter Try.func3, Try.ntmps3
  go_upto_region 6 with (first | ((with_reducible refine gate_callee (f := 6) rfl ?_); refine goesL_ (some 12) rfl rfl Try.func6 (by kernel_rfl) rfl #[.slice A0 l0.length c0] rfl (by (try simp only [List.map_toArray, List.map_cons, List.map_nil]); first | done | rfl | (simp only [List.length_drop, List.length_take]; rfl)) ?_; (with_reducible refine (laws_big.calls _ _ l0 false _ ?side1 ?side2 A2.out).mono ?_); (case side1 => repeat (first | exact HR0.out | (with_reducible refine Kd.C_alloc ?_ _) | (with_reducible refine Kd.C_drewN ?_ _) | (with_reducible refine Kd.C_drew ?_))); (case side2 => exact HC0.out); rintro e w' ⟨rfl, ⟨nd, rfl⟩⟩; refine ⟨_, rfl, ?_⟩) | ((with_reducible refine gate_callee (f := 7) rfl ?_); refine goesL_ (some 15) rfl rfl Try.func7 (by kernel_rfl) rfl #[.slice A0 l0.length c0] rfl (by (try simp only [List.map_toArray, List.map_cons, List.map_nil]); first | done | rfl | (simp only [List.length_drop, List.length_take]; rfl)) ?_; (with_reducible refine (spec_DrawRightCourse.calls k _ _ l0 t227 t228 t229 t230 _ ?side1 ?side2 A4.out).mono ?_); (case side1 => repeat (first | exact HR0.out | (with_reducible refine Kd.C_alloc ?_ _) | (with_reducible refine Kd.C_drewN ?_ _) | (with_reducible refine Kd.C_drew ?_))); (case side2 => exact HC0.out); rintro e w8 ⟨v231, rfl, ho0, hb⟩; refine ⟨_, rfl, ?_⟩; have n0_ := Aside0.mk (Kd.R_lower ho0 (below_size (by repeat (first | (with_reducible first | exact HB.out | apply below_alloc | apply pw_below_drewN | apply below_drew1) | exact HB.out)))); have n1_ := Aside0.mk (below_step (by repeat (first | (with_reducible first | exact HB.out | apply below_alloc | apply pw_below_drewN | apply below_drew1) | exact HB.out)) hb); clear HB; have HO232 := n0_; have HB := n1_; clear n0_ n1_; (try clear hb); (try clear hb2); (try clear hk); (try clear hi); (try clear ho0)) | ((with_reducible refine gate_dst (N := 3) rfl ?_); (try (refine gate_guard (by rfl) ?_; dsimp only)); refine box_event ?hg (N := 3) ?hd (cs := #[.int .i64 0, .int .i64 0, .int .i64 0]) (t := 25) ?hr ?_; (case hd => rfl); (case hg => rfl); (case hr => first | (go_simp; done) | (go_simp; rfl)); intro gb233 hg w9 hbox hb; have n0_ := Aside0.mk (Kd.R_below (by (with_reducible repeat (first | apply Kd.R_alloc | apply Kd.R_drewN | apply Kd.R_drew)); exact HO232.out) hb); have n1_ := Aside0.mk (below_step (by repeat (first | (with_reducible first | exact HB.out | apply below_alloc | apply pw_below_drewN | apply below_drew1) | exact HB.out)) hb); have n2_ := Aside0.mk (hbox); have n3_ := Aside0.mk ((by rw [hg]; exact (below_size (by repeat (first | (with_reducible first | exact HB.out | apply below_alloc | apply pw_below_drewN | apply below_drew1) | exact HB.out))) : w.heap.size ≤ gb233)); have n4_ := Aside0.mk ((by rw [hg]; exact (below_size (by repeat (first | (with_reducible first | exact HB.out | apply below_alloc | apply pw_below_drewN | apply below_drew1) | exact HB.out))) : w.heap.size ≤ gb233)); clear HO232; clear HB; have HO232 := n0_; have HB := n1_; have BK233 := n2_; have GW233 := n3_; have GE233 := n4_; clear n0_ n1_ n2_ n3_ n4_; clear hb hbox hg; have hcz10_0 : w9.cell? ⟨gb233, 0, none⟩ = some (.int .i64 0) := (blk_cell BK233.out 0).trans rfl; have hcz10_1 : w9.cell? ⟨gb233, 1, none⟩ = some (.int .i64 0) := (blk_cell BK233.out 1).trans rfl; have hcz10_2 : w9.cell? ⟨gb233, 2, none⟩ = some (.int .i64 0) := (blk_cell BK233.out 2).trans rfl; have hfz10_0 := blk_frozen BK233.out 0; have hfz10_1 := blk_frozen BK233.out 1; have hfz10_2 := blk_frozen BK233.out 2; obtain ⟨Ao11, co11, eo11⟩ := Kd.R_slice HO232.out; subst eo11) | ((with_reducible refine gate_callee (f := 8) rfl ?_); refine goesL_ (some 20) rfl rfl Try.func8 (by kernel_rfl) rfl #[.agg #[.int .i64 t227, .int .i64 t228, .int .i64 t229], .slice Ao11 t230.length co11] rfl (by (try simp only [List.map_toArray, List.map_cons, List.map_nil]); first | done | rfl | (simp only [List.length_drop, List.length_take]; rfl)) ?_; (with_reducible refine (impl_RunTime.calls k t227 t228 t229 _ _ t230 t234 _ ?side1 ?side2 A5.out).mono ?_); (case side1 => refine (Kd.R_reads' (e := 3) (base := w.heap.size) (ok := fun k_ => True) (n := t230.length) (c := co11) ?_).2.2; exact (by (with_reducible repeat (first | apply Kd.R_alloc | apply Kd.R_drewN | apply Kd.R_drew)); exact (Kd.R_mono (Kd.R_far (p := ⟨gb233, 2, none⟩) (Kd.R_far (p := ⟨gb233, 1, none⟩) (Kd.R_far (p := ⟨gb233, 0, none⟩) (Kd.R_types HO232.out BK233.out (by decide)) (fun _ hk => hk.2) (.int .i64 t227)) (fun _ hk => hk.2) (.int .i64 t228)) (fun _ hk => hk.2) (.int .i64 t229)) (fun _ h_ => h_.1)))); (case side2 => exact (Kd.R_reads' HO232.out).2.1); rintro e w12 ⟨rfl, hb⟩; refine ⟨_, rfl, ?_⟩; have n0_ := Aside0.mk (Kd.R_below (by (with_reducible repeat (first | apply Kd.R_alloc | apply Kd.R_drewN | apply Kd.R_drew)); exact (Kd.R_mono (Kd.R_far (p := ⟨gb233, 2, none⟩) (Kd.R_far (p := ⟨gb233, 1, none⟩) (Kd.R_far (p := ⟨gb233, 0, none⟩) (Kd.R_types HO232.out BK233.out (by decide)) (fun _ hk => hk.2) (.int .i64 t227)) (fun _ hk => hk.2) (.int .i64 t228)) (fun _ hk => hk.2) (.int .i64 t229)) (fun _ h_ => h_.1))) hb); have n1_ := Aside0.mk (blk_below (g := gb233) (o := .cells #[.int .i64 t227, .int .i64 t228, .int .i64 t229] 25 (0, 0)) (by (with_reducible repeat (first | refine blk_drewN ?_ _ | refine blk_drew ?_ | refine blk_alloc ?_ _)); refine blk_put (cs := #[.int .i64 t227, .int .i64 t228, .int .i64 0]) ?_ 2 _ rfl; (with_reducible repeat (first | refine blk_drewN ?_ _ | refine blk_drew ?_ | refine blk_alloc ?_ _)); refine blk_put (cs := #[.int .i64 t227, .int .i64 0, .int .i64 0]) ?_ 1 _ rfl; (with_reducible repeat (first | refine blk_drewN ?_ _ | refine blk_drew ?_ | refine blk_alloc ?_ _)); refine blk_put (cs := #[.int .i64 0, .int .i64 0, .int .i64 0]) ?_ 0 _ rfl; (with_reducible repeat (first | refine blk_drewN ?_ _ | refine blk_drew ?_ | refine blk_alloc ?_ _)); exact BK233.out) hb); have n2_ := Aside0.mk (below_step (by repeat (first | (with_reducible first | exact HB.out | apply below_alloc | apply pw_below_drewN | apply below_drew1 | refine below_set ?_ GE233.out) | exact HB.out)) hb); clear HO232; clear BK233; clear HB; have HO232 := n0_; have BK233 := n1_; have HB := n2_; clear n0_ n1_ n2_; (try clear hb); (try clear hb2); (try clear hk); (try clear hi); have hcz13_0 : w12.cell? ⟨gb233, 0, none⟩ = some (.int .i64 t227) := (blk_cell BK233.out 0).trans rfl; have hcz13_1 : w12.cell? ⟨gb233, 1, none⟩ = some (.int .i64 t228) := (blk_cell BK233.out 1).trans rfl; have hcz13_2 : w12.cell? ⟨gb233, 2, none⟩ = some (.int .i64 t229) := (blk_cell BK233.out 2).trans rfl; have hfz13_0 := blk_frozen BK233.out 0; have hfz13_1 := blk_frozen BK233.out 1; have hfz13_2 := blk_frozen BK233.out 2) | ((with_reducible refine gate_callee (f := 9) rfl ?_); refine goesL_ (some 23) rfl rfl Try.func9 (by kernel_rfl) rfl #[.agg #[.int .i64 t227, .int .i64 t228, .int .i64 t229], .slice Ao11 t230.length co11] rfl (by (try simp only [List.map_toArray, List.map_cons, List.map_nil]); first | done | rfl | (simp only [List.length_drop, List.length_take]; rfl)) ?_; (with_reducible refine (impl_Passing.calls k t227 t228 t229 _ _ t230 t235 _ ?side1 ?side2 A6.out).mono ?_); (case side1 => repeat (first | exact (Kd.R_reads' HO232.out).2.2 | (with_reducible refine Kd.C_alloc ?_ _) | (with_reducible refine Kd.C_drewN ?_ _) | (with_reducible refine Kd.C_drew ?_))); (case side2 => exact (Kd.R_reads' HO232.out).2.1); rintro e w14 ⟨v236, rfl, ho0, hb⟩; refine ⟨_, rfl, ?_⟩; have n0_ := Aside0.mk (Kd.R_elder' (by (with_reducible repeat (first | apply Kd.R_alloc | apply Kd.R_drewN | apply Kd.R_drew)); exact HO232.out) (Kd.R_base ho0) hb); have n1_ := Aside0.mk (Kd.R_lower (Kd.R_new' ho0 (Kd.R_lt (by (with_reducible repeat (first | apply Kd.R_alloc | apply Kd.R_drewN | apply Kd.R_drew)); exact HO232.out))) (below_size (by repeat (first | (with_reducible first | exact HB.out | apply below_alloc | apply pw_below_drewN | apply below_drew1 | refine below_set ?_ GE233.out) | exact HB.out)))); have n2_ := Aside0.mk (blk_below (g := gb233) (o := .cells #[.int .i64 t227, .int .i64 t228, .int .i64 t229] 25 (0, 0)) (by (with_reducible repeat (first | refine blk_drewN ?_ _ | refine blk_drew ?_ | refine blk_alloc ?_ _)); exact BK233.out) hb); have n3_ := Aside0.mk (below_step (by repeat (first | (with_reducible first | exact HB.out | apply below_alloc | apply pw_below_drewN | apply below_drew1 | refine below_set ?_ GE233.out) | exact HB.out)) hb); clear HO232; clear BK233; clear HB; have HO232 := n0_; have HO237 := n1_; have BK233 := n2_; have HB := n3_; clear n0_ n1_ n2_ n3_; (try clear hb); (try clear hb2); (try clear hk); (try clear hi); (try clear ho0)))
  (try simp only [Act.put, List.setIfInBounds_toArray, List.set_cons_zero, List.set_cons_succ])
  go_cut [48] (fun v48 wc => ∃ (kq : Nat) (x48_6 : Bool), v48 = .bool x48_6 ∧ Aside0 (laws_FnFaster.j0 kq l0 t230 t234 x48_6 t227 t228 t229 = some true) ∧ Aside0 (kq ≤ k) ∧ Aside0 (Kd.R (Kd.int .i64) 3 wc w.heap.size (fun _ => True) (.slice Ao11 t230.length co11) t230) ∧ Aside0 (wc.heap[gb233]? = some (.cells #[.int .i64 t227, .int .i64 t228, .int .i64 t229] 25 (0, 0))) ∧ Aside0 (Below w.heap.size w wc))
  case first =>
   have H := HC7.out
   clear HC7
   by_cases c15 : t234 < 0
   ·rw [if_pos c15] at H
    have c15b0 : decide (t234 < 0) = true := decide_eq_true c15
    clear c15
    (first | rw [c15b0] | (simp only [i64_w, i32_w]; rw [c15b0]) | rw [c15b1] | skip)
    have H' := Aside0.mk H
    clear H
    go_wp2
    go_meet
    case rel => exact ⟨_, (true), (by first | rfl | (simp; done) | (simp [*]; done)), H', ⟨by first | omega | exact Nat.le_refl _⟩, ⟨by (with_reducible repeat (first | apply Kd.R_alloc | apply Kd.R_drewN | apply Kd.R_drew)); exact Kd.R_mono HO232.out (fun _ hk => trivial)⟩, ⟨by (with_reducible repeat (first | refine blk_drewN ?_ _ | refine blk_drew ?_ | refine blk_alloc ?_ _)); exact BK233.out⟩, ⟨by repeat (first | (with_reducible first | exact HB.out | apply below_alloc | apply pw_below_drewN | apply below_drew1 | refine below_set ?_ GE233.out) | exact HB.out)⟩⟩
   ·rw [if_neg c15] at H
    have c15b0 : decide (t234 < 0) = false := decide_eq_false c15
    clear c15
    (first | rw [c15b0] | (simp only [i64_w, i32_w]; rw [c15b0]) | rw [c15b1] | skip)
    by_cases c16 : (t235.length : Int) = (wrap64 ((t230.length : Int) + 1))
    ·rw [if_pos c16] at H
     have c16b0 : ((t235.length : Int) == (wrap64 ((t230.length : Int) + 1))) = true := beq_iff_eq.mpr c16
     have c16b1 : ((t235.length : Int) != (wrap64 ((t230.length : Int) + 1))) = false := bne_eq_false_iff_eq.mpr c16
     clear c16
     by_cases c17 : 0 ≤ (t230.length : Int)
     ·rw [if_pos c17] at H
      have c17b0 : decide (0 ≤ (t230.length : Int)) = true := decide_eq_true c17
      have c17b1 : decide (0 ≤ t230.length) = true := decide_eq_true (by omega)
      clear c17
      by_cases c18 : (t230.length : Int) < (t235.length : Int)
      ·rw [if_pos c18] at H
       have c18b0 : decide ((t230.length : Int) < (t235.length : Int)) = true := decide_eq_true c18
       have c18b1 : decide (t230.length < t235.length) = true := decide_eq_true (Int.ofNat_lt.mp c18)
       clear c18
       by_cases c19 : (rd t235 (t230.length : Int)) = t234
       ·rw [if_pos c19] at H
        have c19b0 : ((rd t235 (t230.length : Int)) == t234) = true := beq_iff_eq.mpr c19
        have c19b1 : ((rd t235 (t230.length : Int)) != t234) = false := bne_eq_false_iff_eq.mpr c19
        clear c19
        by_cases c20 : 0 < (t235.length : Int)
        ·rw [if_pos c20] at H
         have c20b0 : decide (0 < (t235.length : Int)) = true := decide_eq_true c20
         have c20b1 : decide (0 < t235.length) = true := decide_eq_true (by omega)
         clear c20
         have H' := Aside0.mk H
         clear H
         obtain ⟨Ao21, co21, eo21⟩ := Kd.R_slice HO237.out
         subst eo21
         have p238 : 0 ≤ ((t230.length : Int) : Int) := of_decide_eq_true (by first | (with_reducible assumption) | assumption)
         have q238 : (t230.length : Int) < (t235.length : Int) := of_decide_eq_true (by first | (with_reducible assumption) | assumption)
         obtain ⟨ad238, e238, hx238_0⟩ := Kd.at_int (Kd.R_reads' HO237.out).2.2 (t230.length : Int) p238 q238
         cases e238
         (try simp only [Go.IntWalk.toNatUp] at hx238_0)
         replace p238 := eq_true p238
         replace q238 := eq_true q238
         have p239 : 0 ≤ (0 : Int) := (by omega)
         have q239 : 0 < (t235.length : Int) := of_decide_eq_true (by first | (with_reducible assumption) | assumption)
         obtain ⟨ad239, e239, hx239_0⟩ := Kd.at_int (Kd.R_reads' HO237.out).2.2 0 p239 q239
         obtain rfl : ad238 = ad239 := (by injection e239)
         have qi239 : (0 < t235.length) = True := eq_true (by omega)
         (try rw [show ((0 : Int)).toNat = 0 from rfl] at hx239_0)
         (try rw [Addr.add_zero'] at hx239_0)
         replace p239 := eq_true p239
         replace q239 := eq_true q239
         go_wp2
         go_meet
         case rel => exact ⟨_, (((rd t235 0) != 0)), (by first | rfl | (simp; done) | (simp [*]; done)), H', ⟨by first | omega | exact Nat.le_refl _⟩, ⟨by (with_reducible repeat (first | apply Kd.R_alloc | apply Kd.R_drewN | apply Kd.R_drew)); exact Kd.R_mono HO232.out (fun _ hk => trivial)⟩, ⟨by (with_reducible repeat (first | refine blk_drewN ?_ _ | refine blk_drew ?_ | refine blk_alloc ?_ _)); exact BK233.out⟩, ⟨by repeat (first | (with_reducible first | exact HB.out | apply below_alloc | apply pw_below_drewN | apply below_drew1 | refine below_set ?_ GE233.out) | exact HB.out)⟩⟩
        ·rw [if_neg c20] at H
         exact absurd H (by simp)
       ·rw [if_neg c19] at H
        have c19b0 : ((rd t235 (t230.length : Int)) == t234) = false := beq_eq_false_iff_ne.mpr c19
        have c19b1 : ((rd t235 (t230.length : Int)) != t234) = true := bne_iff_ne.mpr c19
        have H' := Aside0.mk H
        clear H
        obtain ⟨Ao22, co22, eo22⟩ := Kd.R_slice HO237.out
        subst eo22
        have p238 : 0 ≤ ((t230.length : Int) : Int) := of_decide_eq_true (by first | (with_reducible assumption) | assumption)
        have q238 : (t230.length : Int) < (t235.length : Int) := of_decide_eq_true (by first | (with_reducible assumption) | assumption)
        obtain ⟨ad238, e238, hx238_0⟩ := Kd.at_int (Kd.R_reads' HO237.out).2.2 (t230.length : Int) p238 q238
        cases e238
        (try simp only [Go.IntWalk.toNatUp] at hx238_0)
        replace p238 := eq_true p238
        replace q238 := eq_true q238
        go_wp2
        go_meet
        case rel => exact ⟨_, (true), (by first | rfl | (simp; done) | (simp [*]; done)), H', ⟨by first | omega | exact Nat.le_refl _⟩, ⟨by (with_reducible repeat (first | apply Kd.R_alloc | apply Kd.R_drewN | apply Kd.R_drew)); exact Kd.R_mono HO232.out (fun _ hk => trivial)⟩, ⟨by (with_reducible repeat (first | refine blk_drewN ?_ _ | refine blk_drew ?_ | refine blk_alloc ?_ _)); exact BK233.out⟩, ⟨by repeat (first | (with_reducible first | exact HB.out | apply below_alloc | apply pw_below_drewN | apply below_drew1 | refine below_set ?_ GE233.out) | exact HB.out)⟩⟩
      ·rw [if_neg c18] at H
       exact absurd H (by simp)
     ·rw [if_neg c17] at H
      exact absurd H (by simp)
    ·rw [if_neg c16] at H
     have c16b0 : ((t235.length : Int) == (wrap64 ((t230.length : Int) + 1))) = false := beq_eq_false_iff_ne.mpr c16
     have c16b1 : ((t235.length : Int) != (wrap64 ((t230.length : Int) + 1))) = true := bne_iff_ne.mpr c16
     have H' := Aside0.mk H
     clear H
     obtain ⟨Ao23, co23, eo23⟩ := Kd.R_slice HO237.out
     subst eo23
     go_wp2
     go_meet
     case rel => exact ⟨_, (true), (by first | rfl | (simp; done) | (simp [*]; done)), H', ⟨by first | omega | exact Nat.le_refl _⟩, ⟨by (with_reducible repeat (first | apply Kd.R_alloc | apply Kd.R_drewN | apply Kd.R_drew)); exact Kd.R_mono HO232.out (fun _ hk => trivial)⟩, ⟨by (with_reducible repeat (first | refine blk_drewN ?_ _ | refine blk_drew ?_ | refine blk_alloc ?_ _)); exact BK233.out⟩, ⟨by repeat (first | (with_reducible first | exact HB.out | apply below_alloc | apply pw_below_drewN | apply below_drew1 | refine below_set ?_ GE233.out) | exact HB.out)⟩⟩
  case rest =>
   clear HC7
   try clear c1
   try clear c2
   try clear p2
   try clear q2
   try clear hx2
   try clear qi2
   try clear c3
   try clear c6
   try clear p6
   try clear c7
   try clear c8
   try clear c9
   try clear c15
   try clear c15b0
   try clear c15b1
   try clear c16
   try clear c16b0
   try clear c16b1
   try clear c17
   try clear c17b0
   try clear c17b1
   try clear c18
   try clear c18b0
   try clear c18b1
   try clear c19
   try clear c19b0
   try clear c19b1
   try clear c20
   try clear c20b0
   try clear c20b1
   try clear p23
   try clear q23
   try clear hx23
   try clear qi23
   try clear hcz10_0
   try clear hcz10_1
   try clear hcz10_2
   try clear hcz13_0
   try clear hcz13_1
   try clear hcz13_2
   try clear hfz10_0
   try clear hfz10_1
   try clear hfz10_2
   try clear hfz13_0
   try clear hfz13_1
   try clear hfz13_2
   try clear hx238_0
   try clear hx239_0
   try clear p238
   try clear p239
   try clear q238
   try clear q239
   obtain ⟨kq, x48_6, rfl, HA, HJ6, HO_4, BK233, HB⟩ := hcut
   cases kq with
   | zero => exact absurd HA.out (by simp [laws_FnFaster.j0])
   | succ kj6 =>
    have H := HA.out
    clear HA
    simp only [laws_FnFaster.j0] at H
    by_cases c24 : x48_6 = true
    ·subst c24
     have H1 : (some false) = some true := by (first | (rw [if_pos rfl] at H; exact H) | rfl)
     clear H
     have H := H1
     clear H1
     exact absurd (Option.some.inj H) (by decide)
    ·replace c24 := Bool.eq_false_iff.mpr c24
     subst c24
     have H1 : ((laws_at.f l0 2).bind fun t240 => ((laws_at.f l0 3).bind fun t241 => ((laws_at.f l0 4).bind fun t242 => ((impl_RunTime.f kj6 (wrap64 (t227 + (Int.tmod t240 20))) (wrap64 (t228 + (Int.tmod t241 20))) (wrap64 (t229 + (Int.tmod t242 20))) t230).bind fun t244 => (if t244 > t234 then (some false) else ((some (([] : List Int) : List Int)).bind fun y245 => (if y245.length + t230.length < 17592186044416 then ((some (y245 ++ t230 : List Int)).bind fun y248 => ((laws_at.f l0 5).bind fun t251 => (if (y248.length : Int) = 0 then (none) else (if 0 ≤ (Int.tmod t251 (y248.length : Int)) then (if (Int.tmod t251 (y248.length : Int)) < (y248.length : Int) then ((laws_at.f l0 6).bind fun t253 => ((impl_RunTime.f kj6 t227 t228 t229 (y248.set ((Int.tmod t251 (y248.length : Int)) : Int).toNat (wrap64 ((wrap64 ((rd y248 (Int.tmod t251 (y248.length : Int))) + 1)) + (Int.tmod t253 20))))).bind fun t255 => (if t255 > t234 then (some false) else (if (t230.length : Int) < 2 then ((impl_WithStop.f kj6 t227 t228 t229 t230 1).bind fun t256 => (some (t256 == (-1)))) else ((laws_at.f l0 7).bind fun t257 => (if (wrap64 ((t230.length : Int) - 1)) = 0 then (none) else ((impl_WithStop.f kj6 t227 t228 t229 t230 (wrap64 (1 + (Int.tmod t257 (wrap64 ((t230.length : Int) - 1)))))).bind fun t258 => (if t258 ≥ t234 then ((impl_WithStop.f kj6 t227 t228 t229 t230 (wrap64 (1 + (Int.tmod t257 (wrap64 ((t230.length : Int) - 1)))))).bind fun t259 => (if 0 ≤ (wrap64 (1 + (Int.tmod t257 (wrap64 ((t230.length : Int) - 1))))) then (if (wrap64 (1 + (Int.tmod t257 (wrap64 ((t230.length : Int) - 1))))) ≤ (t230.length : Int) then ((impl_RunTime.f kj6 t227 t228 t229 (t230.take ((wrap64 (1 + (Int.tmod t257 (wrap64 ((t230.length : Int) - 1))))) : Int).toNat)).bind fun t264 => ((impl_RunTime.f kj6 t227 t228 t229 (t230.drop ((wrap64 (1 + (Int.tmod t257 (wrap64 ((t230.length : Int) - 1))))) : Int).toNat)).bind fun t269 => (some (t259 == (wrap64 (t264 + t269)))))) else (none)) else (none))) else (some false))))))))) else (none)) else (none))))) else (none)))))))) = some true := by (first | (rw [if_neg (show ¬ (false = true) by decide)] at H; exact H) | rfl)
     clear H
     have H := H1
     clear H1
     replace H := Option.bind_eq_some_iff.mp H
     obtain ⟨t240, A250, H⟩ := H
     replace H : ((laws_at.f l0 3).bind fun t241 => ((laws_at.f l0 4).bind fun t242 => ((impl_RunTime.f kj6 (wrap64 (t227 + (Int.tmod t240 20))) (wrap64 (t228 + (Int.tmod t241 20))) (wrap64 (t229 + (Int.tmod t242 20))) t230).bind fun t244 => (if t244 > t234 then (some false) else ((some (([] : List Int) : List Int)).bind fun y245 => (if y245.length + t230.length < 17592186044416 then ((some (y245 ++ t230 : List Int)).bind fun y248 => ((laws_at.f l0 5).bind fun t251 => (if (y248.length : Int) = 0 then (none) else (if 0 ≤ (Int.tmod t251 (y248.length : Int)) then (if (Int.tmod t251 (y248.length : Int)) < (y248.length : Int) then ((laws_at.f l0 6).bind fun t253 => ((impl_RunTime.f kj6 t227 t228 t229 (y248.set ((Int.tmod t251 (y248.length : Int)) : Int).toNat (wrap64 ((wrap64 ((rd y248 (Int.tmod t251 (y248.length : Int))) + 1)) + (Int.tmod t253 20))))).bind fun t255 => (if t255 > t234 then (some false) else (if (t230.length : Int) < 2 then ((impl_WithStop.f kj6 t227 t228 t229 t230 1).bind fun t256 => (some (t256 == (-1)))) else ((laws_at.f l0 7).bind fun t257 => (if (wrap64 ((t230.length : Int) - 1)) = 0 then (none) else ((impl_WithStop.f kj6 t227 t228 t229 t230 (wrap64 (1 + (Int.tmod t257 (wrap64 ((t230.length : Int) - 1)))))).bind fun t258 => (if t258 ≥ t234 then ((impl_WithStop.f kj6 t227 t228 t229 t230 (wrap64 (1 + (Int.tmod t257 (wrap64 ((t230.length : Int) - 1)))))).bind fun t259 => (if 0 ≤ (wrap64 (1 + (Int.tmod t257 (wrap64 ((t230.length : Int) - 1))))) then (if (wrap64 (1 + (Int.tmod t257 (wrap64 ((t230.length : Int) - 1))))) ≤ (t230.length : Int) then ((impl_RunTime.f kj6 t227 t228 t229 (t230.take ((wrap64 (1 + (Int.tmod t257 (wrap64 ((t230.length : Int) - 1))))) : Int).toNat)).bind fun t264 => ((impl_RunTime.f kj6 t227 t228 t229 (t230.drop ((wrap64 (1 + (Int.tmod t257 (wrap64 ((t230.length : Int) - 1))))) : Int).toNat)).bind fun t269 => (some (t259 == (wrap64 (t264 + t269)))))) else (none)) else (none))) else (some false))))))))) else (none)) else (none))))) else (none))))))) = some true := H
     have A25 := Aside0.mk A250
     clear A250
     replace H := Option.bind_eq_some_iff.mp H
     obtain ⟨t241, A260, H⟩ := H
     replace H : ((laws_at.f l0 4).bind fun t242 => ((impl_RunTime.f kj6 (wrap64 (t227 + (Int.tmod t240 20))) (wrap64 (t228 + (Int.tmod t241 20))) (wrap64 (t229 + (Int.tmod t242 20))) t230).bind fun t244 => (if t244 > t234 then (some false) else ((some (([] : List Int) : List Int)).bind fun y245 => (if y245.length + t230.length < 17592186044416 then ((some (y245 ++ t230 : List Int)).bind fun y248 => ((laws_at.f l0 5).bind fun t251 => (if (y248.length : Int) = 0 then (none) else (if 0 ≤ (Int.tmod t251 (y248.length : Int)) then (if (Int.tmod t251 (y248.length : Int)) < (y248.length : Int) then ((laws_at.f l0 6).bind fun t253 => ((impl_RunTime.f kj6 t227 t228 t229 (y248.set ((Int.tmod t251 (y248.length : Int)) : Int).toNat (wrap64 ((wrap64 ((rd y248 (Int.tmod t251 (y248.length : Int))) + 1)) + (Int.tmod t253 20))))).bind fun t255 => (if t255 > t234 then (some false) else (if (t230.length : Int) < 2 then ((impl_WithStop.f kj6 t227 t228 t229 t230 1).bind fun t256 => (some (t256 == (-1)))) else ((laws_at.f l0 7).bind fun t257 => (if (wrap64 ((t230.length : Int) - 1)) = 0 then (none) else ((impl_WithStop.f kj6 t227 t228 t229 t230 (wrap64 (1 + (Int.tmod t257 (wrap64 ((t230.length : Int) - 1)))))).bind fun t258 => (if t258 ≥ t234 then ((impl_WithStop.f kj6 t227 t228 t229 t230 (wrap64 (1 + (Int.tmod t257 (wrap64 ((t230.length : Int) - 1)))))).bind fun t259 => (if 0 ≤ (wrap64 (1 + (Int.tmod t257 (wrap64 ((t230.length : Int) - 1))))) then (if (wrap64 (1 + (Int.tmod t257 (wrap64 ((t230.length : Int) - 1))))) ≤ (t230.length : Int) then ((impl_RunTime.f kj6 t227 t228 t229 (t230.take ((wrap64 (1 + (Int.tmod t257 (wrap64 ((t230.length : Int) - 1))))) : Int).toNat)).bind fun t264 => ((impl_RunTime.f kj6 t227 t228 t229 (t230.drop ((wrap64 (1 + (Int.tmod t257 (wrap64 ((t230.length : Int) - 1))))) : Int).toNat)).bind fun t269 => (some (t259 == (wrap64 (t264 + t269)))))) else (none)) else (none))) else (some false))))))))) else (none)) else (none))))) else (none)))))) = some true := H
     have A26 := Aside0.mk A260
     clear A260
     replace H := Option.bind_eq_some_iff.mp H
     obtain ⟨t242, A270, H⟩ := H
     replace H : ((impl_RunTime.f kj6 (wrap64 (t227 + (Int.tmod t240 20))) (wrap64 (t228 + (Int.tmod t241 20))) (wrap64 (t229 + (Int.tmod t242 20))) t230).bind fun t244 => (if t244 > t234 then (some false) else ((some (([] : List Int) : List Int)).bind fun y245 => (if y245.length + t230.length < 17592186044416 then ((some (y245 ++ t230 : List Int)).bind fun y248 => ((laws_at.f l0 5).bind fun t251 => (if (y248.length : Int) = 0 then (none) else (if 0 ≤ (Int.tmod t251 (y248.length : Int)) then (if (Int.tmod t251 (y248.length : Int)) < (y248.length : Int) then ((laws_at.f l0 6).bind fun t253 => ((impl_RunTime.f kj6 t227 t228 t229 (y248.set ((Int.tmod t251 (y248.length : Int)) : Int).toNat (wrap64 ((wrap64 ((rd y248 (Int.tmod t251 (y248.length : Int))) + 1)) + (Int.tmod t253 20))))).bind fun t255 => (if t255 > t234 then (some false) else (if (t230.length : Int) < 2 then ((impl_WithStop.f kj6 t227 t228 t229 t230 1).bind fun t256 => (some (t256 == (-1)))) else ((laws_at.f l0 7).bind fun t257 => (if (wrap64 ((t230.length : Int) - 1)) = 0 then (none) else ((impl_WithStop.f kj6 t227 t228 t229 t230 (wrap64 (1 + (Int.tmod t257 (wrap64 ((t230.length : Int) - 1)))))).bind fun t258 => (if t258 ≥ t234 then ((impl_WithStop.f kj6 t227 t228 t229 t230 (wrap64 (1 + (Int.tmod t257 (wrap64 ((t230.length : Int) - 1)))))).bind fun t259 => (if 0 ≤ (wrap64 (1 + (Int.tmod t257 (wrap64 ((t230.length : Int) - 1))))) then (if (wrap64 (1 + (Int.tmod t257 (wrap64 ((t230.length : Int) - 1))))) ≤ (t230.length : Int) then ((impl_RunTime.f kj6 t227 t228 t229 (t230.take ((wrap64 (1 + (Int.tmod t257 (wrap64 ((t230.length : Int) - 1))))) : Int).toNat)).bind fun t264 => ((impl_RunTime.f kj6 t227 t228 t229 (t230.drop ((wrap64 (1 + (Int.tmod t257 (wrap64 ((t230.length : Int) - 1))))) : Int).toNat)).bind fun t269 => (some (t259 == (wrap64 (t264 + t269)))))) else (none)) else (none))) else (some false))))))))) else (none)) else (none))))) else (none))))) = some true := H
     have A27 := Aside0.mk A270
     clear A270
     replace H := Option.bind_eq_some_iff.mp H
     obtain ⟨t244, A280, H⟩ := H
     replace H : (if t244 > t234 then (some false) else ((some (([] : List Int) : List Int)).bind fun y245 => (if y245.length + t230.length < 17592186044416 then ((some (y245 ++ t230 : List Int)).bind fun y248 => ((laws_at.f l0 5).bind fun t251 => (if (y248.length : Int) = 0 then (none) else (if 0 ≤ (Int.tmod t251 (y248.length : Int)) then (if (Int.tmod t251 (y248.length : Int)) < (y248.length : Int) then ((laws_at.f l0 6).bind fun t253 => ((impl_RunTime.f kj6 t227 t228 t229 (y248.set ((Int.tmod t251 (y248.length : Int)) : Int).toNat (wrap64 ((wrap64 ((rd y248 (Int.tmod t251 (y248.length : Int))) + 1)) + (Int.tmod t253 20))))).bind fun t255 => (if t255 > t234 then (some false) else (if (t230.length : Int) < 2 then ((impl_WithStop.f kj6 t227 t228 t229 t230 1).bind fun t256 => (some (t256 == (-1)))) else ((laws_at.f l0 7).bind fun t257 => (if (wrap64 ((t230.length : Int) - 1)) = 0 then (none) else ((impl_WithStop.f kj6 t227 t228 t229 t230 (wrap64 (1 + (Int.tmod t257 (wrap64 ((t230.length : Int) - 1)))))).bind fun t258 => (if t258 ≥ t234 then ((impl_WithStop.f kj6 t227 t228 t229 t230 (wrap64 (1 + (Int.tmod t257 (wrap64 ((t230.length : Int) - 1)))))).bind fun t259 => (if 0 ≤ (wrap64 (1 + (Int.tmod t257 (wrap64 ((t230.length : Int) - 1))))) then (if (wrap64 (1 + (Int.tmod t257 (wrap64 ((t230.length : Int) - 1))))) ≤ (t230.length : Int) then ((impl_RunTime.f kj6 t227 t228 t229 (t230.take ((wrap64 (1 + (Int.tmod t257 (wrap64 ((t230.length : Int) - 1))))) : Int).toNat)).bind fun t264 => ((impl_RunTime.f kj6 t227 t228 t229 (t230.drop ((wrap64 (1 + (Int.tmod t257 (wrap64 ((t230.length : Int) - 1))))) : Int).toNat)).bind fun t269 => (some (t259 == (wrap64 (t264 + t269)))))) else (none)) else (none))) else (some false))))))))) else (none)) else (none))))) else (none)))) = some true := H
     have A28 := Aside0.mk A280
     clear A280
     by_cases c29 : t244 > t234
     ·rw [if_pos c29] at H
      have c29b0 : decide (t234 < t244) = true := decide_eq_true c29
      clear c29
      exact absurd (Option.some.inj H) (by decide)
     ·rw [if_neg c29] at H
      have c29b0 : decide (t234 < t244) = false := decide_eq_false c29
      clear c29
      obtain ⟨y245, hy245⟩ : ∃ y_ : List Int, y_ = (([] : List Int)) := ⟨_, rfl⟩
      replace H : (if y245.length + t230.length < 17592186044416 then ((some (y245 ++ t230 : List Int)).bind fun y248 => ((laws_at.f l0 5).bind fun t251 => (if (y248.length : Int) = 0 then (none) else (if 0 ≤ (Int.tmod t251 (y248.length : Int)) then (if (Int.tmod t251 (y248.length : Int)) < (y248.length : Int) then ((laws_at.f l0 6).bind fun t253 => ((impl_RunTime.f kj6 t227 t228 t229 (y248.set ((Int.tmod t251 (y248.length : Int)) : Int).toNat (wrap64 ((wrap64 ((rd y248 (Int.tmod t251 (y248.length : Int))) + 1)) + (Int.tmod t253 20))))).bind fun t255 => (if t255 > t234 then (some false) else (if (t230.length : Int) < 2 then ((impl_WithStop.f kj6 t227 t228 t229 t230 1).bind fun t256 => (some (t256 == (-1)))) else ((laws_at.f l0 7).bind fun t257 => (if (wrap64 ((t230.length : Int) - 1)) = 0 then (none) else ((impl_WithStop.f kj6 t227 t228 t229 t230 (wrap64 (1 + (Int.tmod t257 (wrap64 ((t230.length : Int) - 1)))))).bind fun t258 => (if t258 ≥ t234 then ((impl_WithStop.f kj6 t227 t228 t229 t230 (wrap64 (1 + (Int.tmod t257 (wrap64 ((t230.length : Int) - 1)))))).bind fun t259 => (if 0 ≤ (wrap64 (1 + (Int.tmod t257 (wrap64 ((t230.length : Int) - 1))))) then (if (wrap64 (1 + (Int.tmod t257 (wrap64 ((t230.length : Int) - 1))))) ≤ (t230.length : Int) then ((impl_RunTime.f kj6 t227 t228 t229 (t230.take ((wrap64 (1 + (Int.tmod t257 (wrap64 ((t230.length : Int) - 1))))) : Int).toNat)).bind fun t264 => ((impl_RunTime.f kj6 t227 t228 t229 (t230.drop ((wrap64 (1 + (Int.tmod t257 (wrap64 ((t230.length : Int) - 1))))) : Int).toNat)).bind fun t269 => (some (t259 == (wrap64 (t264 + t269)))))) else (none)) else (none))) else (some false))))))))) else (none)) else (none))))) else (none)) = some true := by first | (rw [hy245]; with_reducible exact H) | (have H2_ := (Option.bind_some _ _).symm.trans H; rw [hy245]; with_reducible exact H2_) | (have H2_ := (Option.bind_some _ _).symm.trans H; with_reducible exact H2_) | with_reducible exact H | (rw [hy245]; exact H) | exact H
      have Ny245 := Aside0.mk hy245
      clear hy245
      by_cases c30 : y245.length + t230.length < 17592186044416
      ·rw [if_pos c30] at H
       have LMc30 := Aside0.mk c30
       clear c30
       obtain ⟨y248, hy248⟩ : ∃ y_ : List Int, y_ = (y245 ++ t230) := ⟨_, rfl⟩
       replace H : ((laws_at.f l0 5).bind fun t251 => (if (y248.length : Int) = 0 then (none) else (if 0 ≤ (Int.tmod t251 (y248.length : Int)) then (if (Int.tmod t251 (y248.length : Int)) < (y248.length : Int) then ((laws_at.f l0 6).bind fun t253 => ((impl_RunTime.f kj6 t227 t228 t229 (y248.set ((Int.tmod t251 (y248.length : Int)) : Int).toNat (wrap64 ((wrap64 ((rd y248 (Int.tmod t251 (y248.length : Int))) + 1)) + (Int.tmod t253 20))))).bind fun t255 => (if t255 > t234 then (some false) else (if (t230.length : Int) < 2 then ((impl_WithStop.f kj6 t227 t228 t229 t230 1).bind fun t256 => (some (t256 == (-1)))) else ((laws_at.f l0 7).bind fun t257 => (if (wrap64 ((t230.length : Int) - 1)) = 0 then (none) else ((impl_WithStop.f kj6 t227 t228 t229 t230 (wrap64 (1 + (Int.tmod t257 (wrap64 ((t230.length : Int) - 1)))))).bind fun t258 => (if t258 ≥ t234 then ((impl_WithStop.f kj6 t227 t228 t229 t230 (wrap64 (1 + (Int.tmod t257 (wrap64 ((t230.length : Int) - 1)))))).bind fun t259 => (if 0 ≤ (wrap64 (1 + (Int.tmod t257 (wrap64 ((t230.length : Int) - 1))))) then (if (wrap64 (1 + (Int.tmod t257 (wrap64 ((t230.length : Int) - 1))))) ≤ (t230.length : Int) then ((impl_RunTime.f kj6 t227 t228 t229 (t230.take ((wrap64 (1 + (Int.tmod t257 (wrap64 ((t230.length : Int) - 1))))) : Int).toNat)).bind fun t264 => ((impl_RunTime.f kj6 t227 t228 t229 (t230.drop ((wrap64 (1 + (Int.tmod t257 (wrap64 ((t230.length : Int) - 1))))) : Int).toNat)).bind fun t269 => (some (t259 == (wrap64 (t264 + t269)))))) else (none)) else (none))) else (some false))))))))) else (none)) else (none)))) = some true := by first | (rw [hy248]; with_reducible exact H) | (have H2_ := (Option.bind_some _ _).symm.trans H; rw [hy248]; with_reducible exact H2_) | (have H2_ := (Option.bind_some _ _).symm.trans H; with_reducible exact H2_) | with_reducible exact H | (rw [hy248]; exact H) | exact H
       have Ny248 := Aside0.mk hy248
       clear hy248
       replace H := Option.bind_eq_some_iff.mp H
       obtain ⟨t251, A310, H⟩ := H
       replace H : (if (y248.length : Int) = 0 then (none) else (if 0 ≤ (Int.tmod t251 (y248.length : Int)) then (if (Int.tmod t251 (y248.length : Int)) < (y248.length : Int) then ((laws_at.f l0 6).bind fun t253 => ((impl_RunTime.f kj6 t227 t228 t229 (y248.set ((Int.tmod t251 (y248.length : Int)) : Int).toNat (wrap64 ((wrap64 ((rd y248 (Int.tmod t251 (y248.length : Int))) + 1)) + (Int.tmod t253 20))))).bind fun t255 => (if t255 > t234 then (some false) else (if (t230.length : Int) < 2 then ((impl_WithStop.f kj6 t227 t228 t229 t230 1).bind fun t256 => (some (t256 == (-1)))) else ((laws_at.f l0 7).bind fun t257 => (if (wrap64 ((t230.length : Int) - 1)) = 0 then (none) else ((impl_WithStop.f kj6 t227 t228 t229 t230 (wrap64 (1 + (Int.tmod t257 (wrap64 ((t230.length : Int) - 1)))))).bind fun t258 => (if t258 ≥ t234 then ((impl_WithStop.f kj6 t227 t228 t229 t230 (wrap64 (1 + (Int.tmod t257 (wrap64 ((t230.length : Int) - 1)))))).bind fun t259 => (if 0 ≤ (wrap64 (1 + (Int.tmod t257 (wrap64 ((t230.length : Int) - 1))))) then (if (wrap64 (1 + (Int.tmod t257 (wrap64 ((t230.length : Int) - 1))))) ≤ (t230.length : Int) then ((impl_RunTime.f kj6 t227 t228 t229 (t230.take ((wrap64 (1 + (Int.tmod t257 (wrap64 ((t230.length : Int) - 1))))) : Int).toNat)).bind fun t264 => ((impl_RunTime.f kj6 t227 t228 t229 (t230.drop ((wrap64 (1 + (Int.tmod t257 (wrap64 ((t230.length : Int) - 1))))) : Int).toNat)).bind fun t269 => (some (t259 == (wrap64 (t264 + t269)))))) else (none)) else (none))) else (some false))))))))) else (none)) else (none))) = some true := H
       have A31 := Aside0.mk A310
       clear A310
       by_cases c32 : (y248.length : Int) = 0
       ·rw [if_pos c32] at H
        exact absurd H (by simp)
       ·rw [if_neg c32] at H
        have c32b0 : ((y248.length : Int) == 0) = false := beq_eq_false_iff_ne.mpr c32
        have c32b1 : ((y248.length : Int) != 0) = true := bne_iff_ne.mpr c32
        have c32b2 : ¬ (y248 = []) := fun h_ => c32 (by rw [h_]; rfl)
        obtain ⟨ji33, hji33⟩ : ∃ j_ : Int, (Int.tmod t251 (y248.length : Int)) = j_ := ⟨_, rfl⟩
        replace H : (if 0 ≤ (ji33) then (if (ji33) < (y248.length : Int) then ((laws_at.f l0 6).bind fun t253 => ((impl_RunTime.f kj6 t227 t228 t229 (y248.set ((ji33) : Int).toNat (wrap64 ((wrap64 ((rd y248 (ji33)) + 1)) + (Int.tmod t253 20))))).bind fun t255 => (if t255 > t234 then (some false) else (if (t230.length : Int) < 2 then ((impl_WithStop.f kj6 t227 t228 t229 t230 1).bind fun t256 => (some (t256 == (-1)))) else ((laws_at.f l0 7).bind fun t257 => (if (wrap64 ((t230.length : Int) - 1)) = 0 then (none) else ((impl_WithStop.f kj6 t227 t228 t229 t230 (wrap64 (1 + (Int.tmod t257 (wrap64 ((t230.length : Int) - 1)))))).bind fun t258 => (if t258 ≥ t234 then ((impl_WithStop.f kj6 t227 t228 t229 t230 (wrap64 (1 + (Int.tmod t257 (wrap64 ((t230.length : Int) - 1)))))).bind fun t259 => (if 0 ≤ (wrap64 (1 + (Int.tmod t257 (wrap64 ((t230.length : Int) - 1))))) then (if (wrap64 (1 + (Int.tmod t257 (wrap64 ((t230.length : Int) - 1))))) ≤ (t230.length : Int) then ((impl_RunTime.f kj6 t227 t228 t229 (t230.take ((wrap64 (1 + (Int.tmod t257 (wrap64 ((t230.length : Int) - 1))))) : Int).toNat)).bind fun t264 => ((impl_RunTime.f kj6 t227 t228 t229 (t230.drop ((wrap64 (1 + (Int.tmod t257 (wrap64 ((t230.length : Int) - 1))))) : Int).toNat)).bind fun t269 => (some (t259 == (wrap64 (t264 + t269)))))) else (none)) else (none))) else (some false))))))))) else (none)) else (none)) = some true := by first | (rw [hji33] at H; exact H) | (simp only [hji33] at H ⊢; exact H)
        (try rw [hji33] at A25)
        (try rw [hji33] at A26)
        (try rw [hji33] at A27)
        (try rw [hji33] at A28)
        (try rw [hji33] at A31)
        by_cases c34 : 0 ≤ (ji33)
        ·rw [if_pos c34] at H
         have c34b0 : decide (0 ≤ (ji33)) = true := decide_eq_true c34
         clear c34
         by_cases c35 : (ji33) < (y248.length : Int)
         ·rw [if_pos c35] at H
          have c35b0 : decide ((ji33) < (y248.length : Int)) = true := decide_eq_true c35
          clear c35
          replace H := Option.bind_eq_some_iff.mp H
          obtain ⟨t253, A360, H⟩ := H
          replace H : ((impl_RunTime.f kj6 t227 t228 t229 (y248.set ((ji33) : Int).toNat (wrap64 ((wrap64 ((rd y248 (ji33)) + 1)) + (Int.tmod t253 20))))).bind fun t255 => (if t255 > t234 then (some false) else (if (t230.length : Int) < 2 then ((impl_WithStop.f kj6 t227 t228 t229 t230 1).bind fun t256 => (some (t256 == (-1)))) else ((laws_at.f l0 7).bind fun t257 => (if (wrap64 ((t230.length : Int) - 1)) = 0 then (none) else ((impl_WithStop.f kj6 t227 t228 t229 t230 (wrap64 (1 + (Int.tmod t257 (wrap64 ((t230.length : Int) - 1)))))).bind fun t258 => (if t258 ≥ t234 then ((impl_WithStop.f kj6 t227 t228 t229 t230 (wrap64 (1 + (Int.tmod t257 (wrap64 ((t230.length : Int) - 1)))))).bind fun t259 => (if 0 ≤ (wrap64 (1 + (Int.tmod t257 (wrap64 ((t230.length : Int) - 1))))) then (if (wrap64 (1 + (Int.tmod t257 (wrap64 ((t230.length : Int) - 1))))) ≤ (t230.length : Int) then ((impl_RunTime.f kj6 t227 t228 t229 (t230.take ((wrap64 (1 + (Int.tmod t257 (wrap64 ((t230.length : Int) - 1))))) : Int).toNat)).bind fun t264 => ((impl_RunTime.f kj6 t227 t228 t229 (t230.drop ((wrap64 (1 + (Int.tmod t257 (wrap64 ((t230.length : Int) - 1))))) : Int).toNat)).bind fun t269 => (some (t259 == (wrap64 (t264 + t269)))))) else (none)) else (none))) else (some false)))))))) = some true := H
          have A36 := Aside0.mk A360
          clear A360
          obtain ⟨y254, hy254⟩ : ∃ y_ : List Int, y_ = (y248.set ((ji33) : Int).toNat (wrap64 ((wrap64 ((rd y248 (ji33)) + 1)) + (Int.tmod t253 20)))) := ⟨_, rfl⟩
          replace H : ((impl_RunTime.f kj6 t227 t228 t229 y254).bind fun t255 => (if t255 > t234 then (some false) else (if (t230.length : Int) < 2 then ((impl_WithStop.f kj6 t227 t228 t229 t230 1).bind fun t256 => (some (t256 == (-1)))) else ((laws_at.f l0 7).bind fun t257 => (if (wrap64 ((t230.length : Int) - 1)) = 0 then (none) else ((impl_WithStop.f kj6 t227 t228 t229 t230 (wrap64 (1 + (Int.tmod t257 (wrap64 ((t230.length : Int) - 1)))))).bind fun t258 => (if t258 ≥ t234 then ((impl_WithStop.f kj6 t227 t228 t229 t230 (wrap64 (1 + (Int.tmod t257 (wrap64 ((t230.length : Int) - 1)))))).bind fun t259 => (if 0 ≤ (wrap64 (1 + (Int.tmod t257 (wrap64 ((t230.length : Int) - 1))))) then (if (wrap64 (1 + (Int.tmod t257 (wrap64 ((t230.length : Int) - 1))))) ≤ (t230.length : Int) then ((impl_RunTime.f kj6 t227 t228 t229 (t230.take ((wrap64 (1 + (Int.tmod t257 (wrap64 ((t230.length : Int) - 1))))) : Int).toNat)).bind fun t264 => ((impl_RunTime.f kj6 t227 t228 t229 (t230.drop ((wrap64 (1 + (Int.tmod t257 (wrap64 ((t230.length : Int) - 1))))) : Int).toNat)).bind fun t269 => (some (t259 == (wrap64 (t264 + t269)))))) else (none)) else (none))) else (some false)))))))) = some true := by first | (rw [hy254]; with_reducible exact H) | (have H2_ := (Option.bind_some _ _).symm.trans H; rw [hy254]; with_reducible exact H2_) | (have H2_ := (Option.bind_some _ _).symm.trans H; with_reducible exact H2_) | with_reducible exact H | (rw [hy254]; exact H) | exact H
          have Ny254 := Aside0.mk hy254
          clear hy254
          replace H := Option.bind_eq_some_iff.mp H
          obtain ⟨t255, A380, H⟩ := H
          replace H : (if t255 > t234 then (some false) else (if (t230.length : Int) < 2 then ((impl_WithStop.f kj6 t227 t228 t229 t230 1).bind fun t256 => (some (t256 == (-1)))) else ((laws_at.f l0 7).bind fun t257 => (if (wrap64 ((t230.length : Int) - 1)) = 0 then (none) else ((impl_WithStop.f kj6 t227 t228 t229 t230 (wrap64 (1 + (Int.tmod t257 (wrap64 ((t230.length : Int) - 1)))))).bind fun t258 => (if t258 ≥ t234 then ((impl_WithStop.f kj6 t227 t228 t229 t230 (wrap64 (1 + (Int.tmod t257 (wrap64 ((t230.length : Int) - 1)))))).bind fun t259 => (if 0 ≤ (wrap64 (1 + (Int.tmod t257 (wrap64 ((t230.length : Int) - 1))))) then (if (wrap64 (1 + (Int.tmod t257 (wrap64 ((t230.length : Int) - 1))))) ≤ (t230.length : Int) then ((impl_RunTime.f kj6 t227 t228 t229 (t230.take ((wrap64 (1 + (Int.tmod t257 (wrap64 ((t230.length : Int) - 1))))) : Int).toNat)).bind fun t264 => ((impl_RunTime.f kj6 t227 t228 t229 (t230.drop ((wrap64 (1 + (Int.tmod t257 (wrap64 ((t230.length : Int) - 1))))) : Int).toNat)).bind fun t269 => (some (t259 == (wrap64 (t264 + t269)))))) else (none)) else (none))) else (some false))))))) = some true := H
          have A38 := Aside0.mk A380
          clear A380
          by_cases c39 : t255 > t234
          ·rw [if_pos c39] at H
           have c39b0 : decide (t234 < t255) = true := decide_eq_true c39
           clear c39
           exact absurd (Option.some.inj H) (by decide)
          ·rw [if_neg c39] at H
           have c39b0 : decide (t234 < t255) = false := decide_eq_false c39
           clear c39
           by_cases c40 : (t230.length : Int) < 2
           ·rw [if_pos c40] at H
            have c40b0 : decide ((t230.length : Int) < 2) = true := decide_eq_true c40
            have c40b1 : decide (t230.length < 2) = true := decide_eq_true (by omega)
            clear c40
            replace H := Option.bind_eq_some_iff.mp H
            obtain ⟨t256, A410, H⟩ := H
            replace H : (some (t256 == (-1))) = some true := H
            have A41 := Aside0.mk A410
            clear A410
            have HRT : ((t256 == (-1))) = true := Option.some.inj H
            try go_wp2
            have n0_ := Aside0.mk (Kd.R_drew HO_4.out)
            have n1_ := Aside0.mk (blk_drew BK233.out)
            have n2_ := Aside0.mk (below_drew1 HB.out)
            clear HO_4
            clear BK233
            clear HB
            have HO_4 := n0_
            have BK233 := n1_
            have HB := n2_
            clear n0_ n1_ n2_
            refine start_ (n := 21) (S := fun w' => w'.cell? ⟨gb233, 0, none⟩ = some (.int .i64 t227) ∧ w'.cell? ⟨gb233, 1, none⟩ = some (.int .i64 t228) ∧ w'.cell? ⟨gb233, 2, none⟩ = some (.int .i64 t229)) (ds := []) #[false, false, false, false, false, false, false, false, false, false, false, false, false, false, false, false, false, false, false, false, false] (by kernel_rfl) rfl rfl ⟨(blk_cell BK233.out 0).trans rfl, (blk_cell BK233.out 1).trans rfl, (blk_cell BK233.out 2).trans rfl⟩ (fun hHeld => ?_); refine with_tabW laws_FnFaster.tab8 laws_FnFaster.bits8 (fun HT_ HW_ => ?_)
            generalize wc.drew = w42 at HO_4 BK233 HB hHeld ⊢
            refine pure_ (i := 0) (N := some 49) (v := ?_) (a' := ?_) #[true, false, false, false, false, false, false, false, false, false, false, false, false, false, false, false, false, false, false, false, false] rfl rfl (any_of HT_.out (by kernel_rfl)) (fun _ _ _ h => h) (Or.inl ⟨by rfl, ?_⟩) ?_ ?_
            rotate_left
            ·intro w'
             go_simp
             with_reducible rfl
            rotate_left
            ·simp only [Act.put, List.setIfInBounds_toArray, List.set_cons_zero, List.set_cons_succ, i64_w, i32_w]
             rfl
            refine pure_ (i := 2) (N := some 51) (v := ?_) (a' := ?_) #[true, false, true, false, false, false, false, false, false, false, false, false, false, false, false, false, false, false, false, false, false] rfl rfl (any_of HT_.out (by kernel_rfl)) (fun _ _ _ h => h) (Or.inl ⟨by rfl, ?_⟩) ?_ ?_
            rotate_left
            ·intro w'
             go_simp
             with_reducible rfl
            rotate_left
            ·simp only [Act.put, List.setIfInBounds_toArray, List.set_cons_zero, List.set_cons_succ, i64_w, i32_w]
             rfl
            refine pure_ (i := 6) (N := some 55) (v := ?_) (a' := ?_) #[true, false, true, false, false, false, true, false, false, false, false, false, false, false, false, false, false, false, false, false, false] rfl rfl (any_of HT_.out (by kernel_rfl)) (fun _ _ _ h => h) (Or.inl ⟨by rfl, ?_⟩) ?_ ?_
            rotate_left
            ·intro w'
             go_simp
             with_reducible rfl
            rotate_left
            ·simp only [Act.put, List.setIfInBounds_toArray, List.set_cons_zero, List.set_cons_succ, i64_w, i32_w]
             rfl
            refine pure_ (i := 8) (N := some 57) (v := ?_) (a' := ?_) #[true, false, true, false, false, false, true, false, true, false, false, false, false, false, false, false, false, false, false, false, false] rfl rfl (any_of HT_.out (by kernel_rfl)) (fun _ _ _ h => h) (Or.inl ⟨by rfl, ?_⟩) ?_ ?_
            rotate_left
            ·intro w'
             go_simp
             with_reducible rfl
            rotate_left
            ·simp only [Act.put, List.setIfInBounds_toArray, List.set_cons_zero, List.set_cons_succ, i64_w, i32_w]
             rfl
            refine pure_ (i := 12) (N := some 61) (v := ?_) (a' := ?_) #[true, false, true, false, false, false, true, false, true, false, false, false, true, false, false, false, false, false, false, false, false] rfl rfl (any_of HT_.out (by kernel_rfl)) (fun _ _ _ h => h) (Or.inl ⟨by rfl, ?_⟩) ?_ ?_
            rotate_left
            ·intro w'
             go_simp
             with_reducible rfl
            rotate_left
            ·simp only [Act.put, List.setIfInBounds_toArray, List.set_cons_zero, List.set_cons_succ, i64_w, i32_w]
             rfl
            refine pure_ (i := 14) (N := some 63) (v := ?_) (a' := ?_) #[true, false, true, false, false, false, true, false, true, false, false, false, true, false, true, false, false, false, false, false, false] rfl rfl (any_of HT_.out (by kernel_rfl)) (fun _ _ _ h => h) (Or.inl ⟨by rfl, ?_⟩) ?_ ?_
            rotate_left
            ·intro w'
             go_simp
             with_reducible rfl
            rotate_left
            ·simp only [Act.put, List.setIfInBounds_toArray, List.set_cons_zero, List.set_cons_succ, i64_w, i32_w]
             rfl
            refine take_ (i := 1) (N := some 50) (v := ?_) (a' := ?_) #[true, true, true, false, false, false, true, false, true, false, false, false, true, false, true, false, false, false, false, false, false] rfl rfl (take_ofW HT_.out HW_.out (by kernel_rfl)) (fun _ _ _ h => h) (Or.inl ⟨by rfl, ?_⟩) hHeld ?_ ?_
            rotate_left
            ·rintro w' ⟨s0, s1, s2⟩
             go_simp
             with_reducible rfl
            rotate_left
            ·simp only [Act.put, List.setIfInBounds_toArray, List.set_cons_zero, List.set_cons_succ, i64_w, i32_w]
             rfl
            refine take_ (i := 7) (N := some 56) (v := ?_) (a' := ?_) #[true, true, true, false, false, false, true, true, true, false, false, false, true, false, true, false, false, false, false, false, false] rfl rfl (take_ofW HT_.out HW_.out (by kernel_rfl)) (fun _ _ _ h => h) (Or.inl ⟨by rfl, ?_⟩) hHeld ?_ ?_
            rotate_left
            ·rintro w' ⟨s0, s1, s2⟩
             go_simp
             with_reducible rfl
            rotate_left
            ·simp only [Act.put, List.setIfInBounds_toArray, List.set_cons_zero, List.set_cons_succ, i64_w, i32_w]
             rfl
            refine take_ (i := 13) (N := some 62) (v := ?_) (a' := ?_) #[true, true, true, false, false, false, true, true, true, false, false, false, true, true, true, false, false, false, false, false, false] rfl rfl (take_ofW HT_.out HW_.out (by kernel_rfl)) (fun _ _ _ h => h) (Or.inl ⟨by rfl, ?_⟩) hHeld ?_ ?_
            rotate_left
            ·rintro w' ⟨s0, s1, s2⟩
             go_simp
             with_reducible rfl
            rotate_left
            ·simp only [Act.put, List.setIfInBounds_toArray, List.set_cons_zero, List.set_cons_succ, i64_w, i32_w]
             rfl
            refine join_ (σ := Nat) 1 #[true, true, true, true, true, true, true, true, true, true, true, true, true, true, true, true, true, true, true, true, false] (fun s_ => [(52, .int .i64 t240), (58, .int .i64 t241), (64, .int .i64 t242), (7, .pointer (some ⟨s_, 0, none⟩)), (53, .int .i64 (Int.tmod t240 20)), (54, .int .i64 (wrap64 (t227 + (Int.tmod t240 20)))), (59, .int .i64 (Int.tmod t241 20)), (60, .int .i64 (wrap64 (t228 + (Int.tmod t241 20)))), (65, .int .i64 (Int.tmod t242 20)), (66, .int .i64 (wrap64 (t229 + (Int.tmod t242 20)))), (67, .agg #[.int .i64 (wrap64 (t227 + (Int.tmod t240 20))), .int .i64 (wrap64 (t228 + (Int.tmod t241 20))), .int .i64 (wrap64 (t229 + (Int.tmod t242 20)))])]) (fun s_ w' => (w'.cell? ⟨gb233, 0, none⟩ = some (.int .i64 t227) ∧ w'.cell? ⟨gb233, 1, none⟩ = some (.int .i64 t228) ∧ w'.cell? ⟨gb233, 2, none⟩ = some (.int .i64 t229)) ∧ (Kd.R (Kd.int .i64) 3 w' w.heap.size (fun _ => True) (.slice Ao11 t230.length co11) t230) ∧ (w'.heap[gb233]? = some (.cells #[.int .i64 t227, .int .i64 t228, .int .i64 t229] 25 (0, 0))) ∧ (w'.heap[s_]? = some (.cells #[.int .i64 0, .int .i64 0, .int .i64 0] 25 (0, 0))) ∧ (w.heap.size ≤ s_) ∧ (w.heap.size ≤ s_) ∧ (gb233 ≠ s_) ∧ (s_ ≠ gb233) ∧ (Below w.heap.size w w')) ?_ ?_
            rotate_left
            ·intro hCont
             refine two_ (i := 3) (j := 19) (Ni := some 52) (Nj := some 7) #[true, true, true, true, false, false, true, true, true, false, false, false, true, true, true, false, false, false, false, false, false] #[true, true, true, false, false, false, true, true, true, false, false, false, true, true, true, false, false, false, false, true, false] rfl rfl rfl rfl (two_of HT_.out (by kernel_rfl)) (by decide) (by decide) (fun K hK => ?_) (fun K hK => ?_)
             ·skip
              refine goes_ Try.func10 (by kernel_rfl) rfl #[.slice A0 l0.length c0, .int .i64 2] (by rfl) rfl rfl (by (try simp only [List.map_toArray, List.map_cons, List.map_nil]); first | done | rfl | (simp only [List.length_drop, List.length_take]; rfl)) ?_
              with_reducible refine (laws_at.calls _ _ l0 2 t240 _ ?side1 ?side2 A25.out).mono ?_
              (case side1 => repeat (first | exact (Kd.C_below HR0.out HB.out) | (with_reducible refine Kd.C_alloc ?_ _) | (with_reducible refine Kd.C_drewN ?_ _) | (with_reducible refine Kd.C_drew ?_)))
              (case side2 => exact HC0.out)
              rintro e w' ⟨rfl, ⟨nd, rfl⟩⟩
              refine ⟨_, rfl, ?_⟩
              refine hK.out _ _ ⟨(blk_cell BK233.out 0).trans rfl, (blk_cell BK233.out 1).trans rfl, (blk_cell BK233.out 2).trans rfl⟩ (fun hHeld => ?_)
              clear hK K
              refine norm_ (a' := ?_) ?_ ?_
              rotate_left
              ·show Act.put _ (some 52) _ = _
               simp only [Act.put, List.setIfInBounds_toArray, List.set_cons_zero, List.set_cons_succ, i64_w, i32_w]
               rfl
              refine pure_ (i := 4) (N := some 53) (v := ?_) (a' := ?_) #[true, true, true, true, true, false, true, true, true, false, false, false, true, true, true, false, false, false, false, false, false] rfl rfl (any_of HT_.out (by kernel_rfl)) (fun _ _ _ h => h) (Or.inl ⟨by rfl, ?_⟩) ?_ ?_
              rotate_left
              ·intro w'
               go_simp
               with_reducible rfl
              rotate_left
              ·simp only [Act.put, List.setIfInBounds_toArray, List.set_cons_zero, List.set_cons_succ, i64_w, i32_w]
               rfl
              refine pure_ (i := 5) (N := some 54) (v := ?_) (a' := ?_) #[true, true, true, true, true, true, true, true, true, false, false, false, true, true, true, false, false, false, false, false, false] rfl rfl (any_of HT_.out (by kernel_rfl)) (fun _ _ _ h => h) (Or.inl ⟨by rfl, ?_⟩) ?_ ?_
              rotate_left
              ·intro w'
               go_simp
               with_reducible rfl
              rotate_left
              ·simp only [Act.put, List.setIfInBounds_toArray, List.set_cons_zero, List.set_cons_succ, i64_w, i32_w]
               rfl
              refine two_ (i := 9) (j := 19) (Ni := some 58) (Nj := some 7) #[true, true, true, true, true, true, true, true, true, true, false, false, true, true, true, false, false, false, false, false, false] #[true, true, true, true, true, true, true, true, true, false, false, false, true, true, true, false, false, false, false, true, false] rfl rfl rfl rfl (two_of HT_.out (by kernel_rfl)) (by decide) (by decide) (fun K hK => ?_) (fun K hK => ?_)
              ·skip
               refine goes_ Try.func10 (by kernel_rfl) rfl #[.slice A0 l0.length c0, .int .i64 3] (by rfl) rfl rfl (by (try simp only [List.map_toArray, List.map_cons, List.map_nil]); first | done | rfl | (simp only [List.length_drop, List.length_take]; rfl)) ?_
               with_reducible refine (laws_at.calls _ _ l0 3 t241 _ ?side1 ?side2 A26.out).mono ?_
               (case side1 => repeat (first | exact (Kd.C_below HR0.out (by repeat (first | (with_reducible first | exact HB.out | apply below_alloc | apply pw_below_drewN | apply below_drew1 | refine below_set ?_ GE233.out) | exact HB.out))) | (with_reducible refine Kd.C_alloc ?_ _) | (with_reducible refine Kd.C_drewN ?_ _) | (with_reducible refine Kd.C_drew ?_)))
               (case side2 => exact HC0.out)
               rintro e w' ⟨rfl, ⟨nd, rfl⟩⟩
               refine ⟨_, rfl, ?_⟩
               refine hK.out _ _ ⟨(blk_cell BK233.out 0).trans rfl, (blk_cell BK233.out 1).trans rfl, (blk_cell BK233.out 2).trans rfl⟩ (fun hHeld => ?_)
               clear hK K
               refine norm_ (a' := ?_) ?_ ?_
               rotate_left
               ·show Act.put _ (some 58) _ = _
                simp only [Act.put, List.setIfInBounds_toArray, List.set_cons_zero, List.set_cons_succ, i64_w, i32_w]
                rfl
               refine pure_ (i := 10) (N := some 59) (v := ?_) (a' := ?_) #[true, true, true, true, true, true, true, true, true, true, true, false, true, true, true, false, false, false, false, false, false] rfl rfl (any_of HT_.out (by kernel_rfl)) (fun _ _ _ h => h) (Or.inl ⟨by rfl, ?_⟩) ?_ ?_
               rotate_left
               ·intro w'
                go_simp
                with_reducible rfl
               rotate_left
               ·simp only [Act.put, List.setIfInBounds_toArray, List.set_cons_zero, List.set_cons_succ, i64_w, i32_w]
                rfl
               refine pure_ (i := 11) (N := some 60) (v := ?_) (a' := ?_) #[true, true, true, true, true, true, true, true, true, true, true, true, true, true, true, false, false, false, false, false, false] rfl rfl (any_of HT_.out (by kernel_rfl)) (fun _ _ _ h => h) (Or.inl ⟨by rfl, ?_⟩) ?_ ?_
               rotate_left
               ·intro w'
                go_simp
                with_reducible rfl
               rotate_left
               ·simp only [Act.put, List.setIfInBounds_toArray, List.set_cons_zero, List.set_cons_succ, i64_w, i32_w]
                rfl
               refine two_ (i := 15) (j := 19) (Ni := some 64) (Nj := some 7) #[true, true, true, true, true, true, true, true, true, true, true, true, true, true, true, true, false, false, false, false, false] #[true, true, true, true, true, true, true, true, true, true, true, true, true, true, true, false, false, false, false, true, false] rfl rfl rfl rfl (two_of HT_.out (by kernel_rfl)) (by decide) (by decide) (fun K hK => ?_) (fun K hK => ?_)
               ·skip
                refine goes_ Try.func10 (by kernel_rfl) rfl #[.slice A0 l0.length c0, .int .i64 4] (by rfl) rfl rfl (by (try simp only [List.map_toArray, List.map_cons, List.map_nil]); first | done | rfl | (simp only [List.length_drop, List.length_take]; rfl)) ?_
                with_reducible refine (laws_at.calls _ _ l0 4 t242 _ ?side1 ?side2 A27.out).mono ?_
                (case side1 => repeat (first | exact (Kd.C_below HR0.out (by repeat (first | (with_reducible first | exact HB.out | apply below_alloc | apply pw_below_drewN | apply below_drew1 | refine below_set ?_ GE233.out) | exact HB.out))) | (with_reducible refine Kd.C_alloc ?_ _) | (with_reducible refine Kd.C_drewN ?_ _) | (with_reducible refine Kd.C_drew ?_)))
                (case side2 => exact HC0.out)
                rintro e w' ⟨rfl, ⟨nd, rfl⟩⟩
                refine ⟨_, rfl, ?_⟩
                refine hK.out _ _ ⟨(blk_cell BK233.out 0).trans rfl, (blk_cell BK233.out 1).trans rfl, (blk_cell BK233.out 2).trans rfl⟩ (fun hHeld => ?_)
                clear hK K
                refine norm_ (a' := ?_) ?_ ?_
                rotate_left
                ·show Act.put _ (some 64) _ = _
                 simp only [Act.put, List.setIfInBounds_toArray, List.set_cons_zero, List.set_cons_succ, i64_w, i32_w]
                 rfl
                refine pure_ (i := 16) (N := some 65) (v := ?_) (a' := ?_) #[true, true, true, true, true, true, true, true, true, true, true, true, true, true, true, true, true, false, false, false, false] rfl rfl (any_of HT_.out (by kernel_rfl)) (fun _ _ _ h => h) (Or.inl ⟨by rfl, ?_⟩) ?_ ?_
                rotate_left
                ·intro w'
                 go_simp
                 with_reducible rfl
                rotate_left
                ·simp only [Act.put, List.setIfInBounds_toArray, List.set_cons_zero, List.set_cons_succ, i64_w, i32_w]
                 rfl
                refine pure_ (i := 17) (N := some 66) (v := ?_) (a' := ?_) #[true, true, true, true, true, true, true, true, true, true, true, true, true, true, true, true, true, true, false, false, false] rfl rfl (any_of HT_.out (by kernel_rfl)) (fun _ _ _ h => h) (Or.inl ⟨by rfl, ?_⟩) ?_ ?_
                rotate_left
                ·intro w'
                 go_simp
                 with_reducible rfl
                rotate_left
                ·simp only [Act.put, List.setIfInBounds_toArray, List.set_cons_zero, List.set_cons_succ, i64_w, i32_w]
                 rfl
                refine pure_ (i := 18) (N := some 67) (v := ?_) (a' := ?_) #[true, true, true, true, true, true, true, true, true, true, true, true, true, true, true, true, true, true, true, false, false] rfl rfl (any_of HT_.out (by kernel_rfl)) (fun _ _ _ h => h) (Or.inl ⟨by rfl, ?_⟩) ?_ ?_
                rotate_left
                ·intro w'
                 go_simp
                 with_reducible rfl
                rotate_left
                ·simp only [Act.put, List.setIfInBounds_toArray, List.set_cons_zero, List.set_cons_succ, i64_w, i32_w]
                 rfl
                refine one_ (i := 19) (N := some 7) #[true, true, true, true, true, true, true, true, true, true, true, true, true, true, true, true, true, true, true, true, false] rfl rfl (one_of HT_.out (by kernel_rfl)) (by decide) (fun K hK => ?_)
                refine box_step ?hg (N := 7) ?hd (cs := #[.int .i64 0, .int .i64 0, .int .i64 0]) (t := 25) ?hr ?_; (case hd => rfl); (case hg => rfl); (case hr => first | (go_simp; done) | (go_simp; rfl))
                intro gb243 hg w43 hbox hb
                have n0_ := Aside0.mk (Kd.R_below (by (with_reducible repeat (first | apply Kd.R_alloc | apply Kd.R_drewN | apply Kd.R_drew)); exact HO_4.out) hb)
                have n1_ := Aside0.mk (blk_below (g := gb233) (o := .cells #[.int .i64 t227, .int .i64 t228, .int .i64 t229] 25 (0, 0)) (by (with_reducible repeat (first | refine blk_drewN ?_ _ | refine blk_drew ?_ | refine blk_alloc ?_ _)); exact BK233.out) hb)
                have n2_ := Aside0.mk (below_step (by repeat (first | (with_reducible first | exact HB.out | apply below_alloc | apply pw_below_drewN | apply below_drew1 | refine below_set ?_ GE233.out) | exact HB.out)) hb)
                have n3_ := Aside0.mk (hbox)
                have n4_ := Aside0.mk ((by rw [hg]; exact (below_size (by repeat (first | (with_reducible first | exact HB.out | apply below_alloc | apply pw_below_drewN | apply below_drew1 | refine below_set ?_ GE233.out) | exact HB.out))) : w.heap.size ≤ gb243))
                have n5_ := Aside0.mk ((by rw [hg]; exact (below_size (by repeat (first | (with_reducible first | exact HB.out | apply below_alloc | apply pw_below_drewN | apply below_drew1 | refine below_set ?_ GE233.out) | exact HB.out))) : w.heap.size ≤ gb243))
                have n6_ := Aside0.mk ((by rw [hg]; exact Nat.ne_of_lt (blk_lt (g := gb233) (o := .cells #[.int .i64 t227, .int .i64 t228, .int .i64 t229] 25 (0, 0)) (by (with_reducible repeat (first | refine blk_drewN ?_ _ | refine blk_drew ?_ | refine blk_alloc ?_ _)); exact BK233.out)) : gb233 ≠ gb243))
                have n7_ := Aside0.mk ((by rw [hg]; exact Nat.ne_of_gt (blk_lt (g := gb233) (o := .cells #[.int .i64 t227, .int .i64 t228, .int .i64 t229] 25 (0, 0)) (by (with_reducible repeat (first | refine blk_drewN ?_ _ | refine blk_drew ?_ | refine blk_alloc ?_ _)); exact BK233.out)) : gb243 ≠ gb233))
                clear HO_4
                clear BK233
                clear HB
                have HO_4 := n0_
                have BK233 := n1_
                have HB := n2_
                have BK243 := n3_
                have GW243 := n4_
                have GE243 := n5_
                have NB233_243 := n6_
                have NB243_233 := n7_
                clear n0_ n1_ n2_ n3_ n4_ n5_ n6_ n7_
                clear hb hbox hg
                refine hK.out _ _ ⟨(blk_cell BK233.out 0).trans rfl, (blk_cell BK233.out 1).trans rfl, (blk_cell BK233.out 2).trans rfl⟩ (fun hHeld => ?_)
                clear hK K
                refine norm_ (a' := ?_) ?_ ?_
                rotate_left
                ·show Act.put _ (some 7) _ = _
                 simp only [Act.put, List.setIfInBounds_toArray, List.set_cons_zero, List.set_cons_succ, i64_w, i32_w]
                 rfl
                exact norm_ (by simp only [putAll, Act.put, List.setIfInBounds_toArray, List.set_cons_zero, List.set_cons_succ]) (hCont (gb243) _ ⟨hHeld, (by (with_reducible repeat (first | apply Kd.R_alloc | apply Kd.R_drewN | apply Kd.R_drew)); exact HO_4.out), (by (with_reducible repeat (first | refine blk_drewN ?_ _ | refine blk_drew ?_ | refine blk_alloc ?_ _)); exact BK233.out), (by (with_reducible repeat (first | refine blk_drewN ?_ _ | refine blk_drew ?_ | refine blk_alloc ?_ _)); exact BK243.out), GW243.out, GE243.out, NB233_243.out, NB243_233.out, (by repeat (first | (with_reducible first | exact HB.out | apply below_alloc | apply pw_below_drewN | apply below_drew1 | refine below_set ?_ GE233.out | refine below_set ?_ GE243.out) | exact HB.out))⟩)
               ·skip
                refine box_step ?hg (N := 7) ?hd (cs := #[.int .i64 0, .int .i64 0, .int .i64 0]) (t := 25) ?hr ?_; (case hd => rfl); (case hg => rfl); (case hr => first | (go_simp; done) | (go_simp; rfl))
                intro gb243 hg w43 hbox hb
                have n0_ := Aside0.mk (Kd.R_below (by (with_reducible repeat (first | apply Kd.R_alloc | apply Kd.R_drewN | apply Kd.R_drew)); exact HO_4.out) hb)
                have n1_ := Aside0.mk (blk_below (g := gb233) (o := .cells #[.int .i64 t227, .int .i64 t228, .int .i64 t229] 25 (0, 0)) (by (with_reducible repeat (first | refine blk_drewN ?_ _ | refine blk_drew ?_ | refine blk_alloc ?_ _)); exact BK233.out) hb)
                have n2_ := Aside0.mk (below_step (by repeat (first | (with_reducible first | exact HB.out | apply below_alloc | apply pw_below_drewN | apply below_drew1 | refine below_set ?_ GE233.out) | exact HB.out)) hb)
                have n3_ := Aside0.mk (hbox)
                have n4_ := Aside0.mk ((by rw [hg]; exact (below_size (by repeat (first | (with_reducible first | exact HB.out | apply below_alloc | apply pw_below_drewN | apply below_drew1 | refine below_set ?_ GE233.out) | exact HB.out))) : w.heap.size ≤ gb243))
                have n5_ := Aside0.mk ((by rw [hg]; exact (below_size (by repeat (first | (with_reducible first | exact HB.out | apply below_alloc | apply pw_below_drewN | apply below_drew1 | refine below_set ?_ GE233.out) | exact HB.out))) : w.heap.size ≤ gb243))
                have n6_ := Aside0.mk ((by rw [hg]; exact Nat.ne_of_lt (blk_lt (g := gb233) (o := .cells #[.int .i64 t227, .int .i64 t228, .int .i64 t229] 25 (0, 0)) (by (with_reducible repeat (first | refine blk_drewN ?_ _ | refine blk_drew ?_ | refine blk_alloc ?_ _)); exact BK233.out)) : gb233 ≠ gb243))
                have n7_ := Aside0.mk ((by rw [hg]; exact Nat.ne_of_gt (blk_lt (g := gb233) (o := .cells #[.int .i64 t227, .int .i64 t228, .int .i64 t229] 25 (0, 0)) (by (with_reducible repeat (first | refine blk_drewN ?_ _ | refine blk_drew ?_ | refine blk_alloc ?_ _)); exact BK233.out)) : gb243 ≠ gb233))
                clear HO_4
                clear BK233
                clear HB
                have HO_4 := n0_
                have BK233 := n1_
                have HB := n2_
                have BK243 := n3_
                have GW243 := n4_
                have GE243 := n5_
                have NB233_243 := n6_
                have NB243_233 := n7_
                clear n0_ n1_ n2_ n3_ n4_ n5_ n6_ n7_
                clear hb hbox hg
                refine hK.out _ _ ⟨(blk_cell BK233.out 0).trans rfl, (blk_cell BK233.out 1).trans rfl, (blk_cell BK233.out 2).trans rfl⟩ (fun hHeld => ?_)
                clear hK K
                refine norm_ (a' := ?_) ?_ ?_
                rotate_left
                ·show Act.put _ (some 7) _ = _
                 simp only [Act.put, List.setIfInBounds_toArray, List.set_cons_zero, List.set_cons_succ, i64_w, i32_w]
                 rfl
                refine one_ (i := 15) (N := some 64) #[true, true, true, true, true, true, true, true, true, true, true, true, true, true, true, true, false, false, false, true, false] rfl rfl (one_of HT_.out (by kernel_rfl)) (by decide) (fun K hK => ?_)
                refine goes_ Try.func10 (by kernel_rfl) rfl #[.slice A0 l0.length c0, .int .i64 4] (by rfl) rfl rfl (by (try simp only [List.map_toArray, List.map_cons, List.map_nil]); first | done | rfl | (simp only [List.length_drop, List.length_take]; rfl)) ?_
                with_reducible refine (laws_at.calls _ _ l0 4 t242 _ ?side1 ?side2 A27.out).mono ?_
                (case side1 => repeat (first | exact (Kd.C_below HR0.out HB.out) | (with_reducible refine Kd.C_alloc ?_ _) | (with_reducible refine Kd.C_drewN ?_ _) | (with_reducible refine Kd.C_drew ?_)))
                (case side2 => exact HC0.out)
                rintro e w' ⟨rfl, ⟨nd, rfl⟩⟩
                refine ⟨_, rfl, ?_⟩
                refine hK.out _ _ ⟨(blk_cell BK233.out 0).trans rfl, (blk_cell BK233.out 1).trans rfl, (blk_cell BK233.out 2).trans rfl⟩ (fun hHeld => ?_)
                clear hK K
                refine norm_ (a' := ?_) ?_ ?_
                rotate_left
                ·show Act.put _ (some 64) _ = _
                 simp only [Act.put, List.setIfInBounds_toArray, List.set_cons_zero, List.set_cons_succ, i64_w, i32_w]
                 rfl
                refine pure_ (i := 16) (N := some 65) (v := ?_) (a' := ?_) #[true, true, true, true, true, true, true, true, true, true, true, true, true, true, true, true, true, false, false, true, false] rfl rfl (any_of HT_.out (by kernel_rfl)) (fun _ _ _ h => h) (Or.inl ⟨by rfl, ?_⟩) ?_ ?_
                rotate_left
                ·intro w'
                 go_simp
                 with_reducible rfl
                rotate_left
                ·simp only [Act.put, List.setIfInBounds_toArray, List.set_cons_zero, List.set_cons_succ, i64_w, i32_w]
                 rfl
                refine pure_ (i := 17) (N := some 66) (v := ?_) (a' := ?_) #[true, true, true, true, true, true, true, true, true, true, true, true, true, true, true, true, true, true, false, true, false] rfl rfl (any_of HT_.out (by kernel_rfl)) (fun _ _ _ h => h) (Or.inl ⟨by rfl, ?_⟩) ?_ ?_
                rotate_left
                ·intro w'
                 go_simp
                 with_reducible rfl
                rotate_left
                ·simp only [Act.put, List.setIfInBounds_toArray, List.set_cons_zero, List.set_cons_succ, i64_w, i32_w]
                 rfl
                refine pure_ (i := 18) (N := some 67) (v := ?_) (a' := ?_) #[true, true, true, true, true, true, true, true, true, true, true, true, true, true, true, true, true, true, true, true, false] rfl rfl (any_of HT_.out (by kernel_rfl)) (fun _ _ _ h => h) (Or.inl ⟨by rfl, ?_⟩) ?_ ?_
                rotate_left
                ·intro w'
                 go_simp
                 with_reducible rfl
                rotate_left
                ·simp only [Act.put, List.setIfInBounds_toArray, List.set_cons_zero, List.set_cons_succ, i64_w, i32_w]
                 rfl
                exact norm_ (by simp only [putAll, Act.put, List.setIfInBounds_toArray, List.set_cons_zero, List.set_cons_succ]) (hCont (gb243) _ ⟨hHeld, (by (with_reducible repeat (first | apply Kd.R_alloc | apply Kd.R_drewN | apply Kd.R_drew)); exact HO_4.out), (by (with_reducible repeat (first | refine blk_drewN ?_ _ | refine blk_drew ?_ | refine blk_alloc ?_ _)); exact BK233.out), (by (with_reducible repeat (first | refine blk_drewN ?_ _ | refine blk_drew ?_ | refine blk_alloc ?_ _)); exact BK243.out), GW243.out, GE243.out, NB233_243.out, NB243_233.out, (by repeat (first | (with_reducible first | exact HB.out | apply below_alloc | apply pw_below_drewN | apply below_drew1 | refine below_set ?_ GE233.out | refine below_set ?_ GE243.out) | exact HB.out))⟩)
              ·skip
               refine box_step ?hg (N := 7) ?hd (cs := #[.int .i64 0, .int .i64 0, .int .i64 0]) (t := 25) ?hr ?_; (case hd => rfl); (case hg => rfl); (case hr => first | (go_simp; done) | (go_simp; rfl))
               intro gb243 hg w43 hbox hb
               have n0_ := Aside0.mk (Kd.R_below (by (with_reducible repeat (first | apply Kd.R_alloc | apply Kd.R_drewN | apply Kd.R_drew)); exact HO_4.out) hb)
               have n1_ := Aside0.mk (blk_below (g := gb233) (o := .cells #[.int .i64 t227, .int .i64 t228, .int .i64 t229] 25 (0, 0)) (by (with_reducible repeat (first | refine blk_drewN ?_ _ | refine blk_drew ?_ | refine blk_alloc ?_ _)); exact BK233.out) hb)
               have n2_ := Aside0.mk (below_step (by repeat (first | (with_reducible first | exact HB.out | apply below_alloc | apply pw_below_drewN | apply below_drew1 | refine below_set ?_ GE233.out) | exact HB.out)) hb)
               have n3_ := Aside0.mk (hbox)
               have n4_ := Aside0.mk ((by rw [hg]; exact (below_size (by repeat (first | (with_reducible first | exact HB.out | apply below_alloc | apply pw_below_drewN | apply below_drew1 | refine below_set ?_ GE233.out) | exact HB.out))) : w.heap.size ≤ gb243))
               have n5_ := Aside0.mk ((by rw [hg]; exact (below_size (by repeat (first | (with_reducible first | exact HB.out | apply below_alloc | apply pw_below_drewN | apply below_drew1 | refine below_set ?_ GE233.out) | exact HB.out))) : w.heap.size ≤ gb243))
               have n6_ := Aside0.mk ((by rw [hg]; exact Nat.ne_of_lt (blk_lt (g := gb233) (o := .cells #[.int .i64 t227, .int .i64 t228, .int .i64 t229] 25 (0, 0)) (by (with_reducible repeat (first | refine blk_drewN ?_ _ | refine blk_drew ?_ | refine blk_alloc ?_ _)); exact BK233.out)) : gb233 ≠ gb243))
               have n7_ := Aside0.mk ((by rw [hg]; exact Nat.ne_of_gt (blk_lt (g := gb233) (o := .cells #[.int .i64 t227, .int .i64 t228, .int .i64 t229] 25 (0, 0)) (by (with_reducible repeat (first | refine blk_drewN ?_ _ | refine blk_drew ?_ | refine blk_alloc ?_ _)); exact BK233.out)) : gb243 ≠ gb233))
               clear HO_4
               clear BK233
               clear HB
               have HO_4 := n0_
               have BK233 := n1_
               have HB := n2_
               have BK243 := n3_
               have GW243 := n4_
               have GE243 := n5_
               have NB233_243 := n6_
               have NB243_233 := n7_
               clear n0_ n1_ n2_ n3_ n4_ n5_ n6_ n7_
               clear hb hbox hg
               refine hK.out _ _ ⟨(blk_cell BK233.out 0).trans rfl, (blk_cell BK233.out 1).trans rfl, (blk_cell BK233.out 2).trans rfl⟩ (fun hHeld => ?_)
               clear hK K
               refine norm_ (a' := ?_) ?_ ?_
               rotate_left
               ·show Act.put _ (some 7) _ = _
                simp only [Act.put, List.setIfInBounds_toArray, List.set_cons_zero, List.set_cons_succ, i64_w, i32_w]
                rfl
               refine one_ (i := 9) (N := some 58) #[true, true, true, true, true, true, true, true, true, true, false, false, true, true, true, false, false, false, false, true, false] rfl rfl (one_of HT_.out (by kernel_rfl)) (by decide) (fun K hK => ?_)
               refine goes_ Try.func10 (by kernel_rfl) rfl #[.slice A0 l0.length c0, .int .i64 3] (by rfl) rfl rfl (by (try simp only [List.map_toArray, List.map_cons, List.map_nil]); first | done | rfl | (simp only [List.length_drop, List.length_take]; rfl)) ?_
               with_reducible refine (laws_at.calls _ _ l0 3 t241 _ ?side1 ?side2 A26.out).mono ?_
               (case side1 => repeat (first | exact (Kd.C_below HR0.out HB.out) | (with_reducible refine Kd.C_alloc ?_ _) | (with_reducible refine Kd.C_drewN ?_ _) | (with_reducible refine Kd.C_drew ?_)))
               (case side2 => exact HC0.out)
               rintro e w' ⟨rfl, ⟨nd, rfl⟩⟩
               refine ⟨_, rfl, ?_⟩
               refine hK.out _ _ ⟨(blk_cell BK233.out 0).trans rfl, (blk_cell BK233.out 1).trans rfl, (blk_cell BK233.out 2).trans rfl⟩ (fun hHeld => ?_)
               clear hK K
               refine norm_ (a' := ?_) ?_ ?_
               rotate_left
               ·show Act.put _ (some 58) _ = _
                simp only [Act.put, List.setIfInBounds_toArray, List.set_cons_zero, List.set_cons_succ, i64_w, i32_w]
                rfl
               refine pure_ (i := 10) (N := some 59) (v := ?_) (a' := ?_) #[true, true, true, true, true, true, true, true, true, true, true, false, true, true, true, false, false, false, false, true, false] rfl rfl (any_of HT_.out (by kernel_rfl)) (fun _ _ _ h => h) (Or.inl ⟨by rfl, ?_⟩) ?_ ?_
               rotate_left
               ·intro w'
                go_simp
                with_reducible rfl
               rotate_left
               ·simp only [Act.put, List.setIfInBounds_toArray, List.set_cons_zero, List.set_cons_succ, i64_w, i32_w]
                rfl
               refine pure_ (i := 11) (N := some 60) (v := ?_) (a' := ?_) #[true, true, true, true, true, true, true, true, true, true, true, true, true, true, true, false, false, false, false, true, false] rfl rfl (any_of HT_.out (by kernel_rfl)) (fun _ _ _ h => h) (Or.inl ⟨by rfl, ?_⟩) ?_ ?_
               rotate_left
               ·intro w'
                go_simp
                with_reducible rfl
               rotate_left
               ·simp only [Act.put, List.setIfInBounds_toArray, List.set_cons_zero, List.set_cons_succ, i64_w, i32_w]
                rfl
               refine one_ (i := 15) (N := some 64) #[true, true, true, true, true, true, true, true, true, true, true, true, true, true, true, true, false, false, false, true, false] rfl rfl (one_of HT_.out (by kernel_rfl)) (by decide) (fun K hK => ?_)
               refine goes_ Try.func10 (by kernel_rfl) rfl #[.slice A0 l0.length c0, .int .i64 4] (by rfl) rfl rfl (by (try simp only [List.map_toArray, List.map_cons, List.map_nil]); first | done | rfl | (simp only [List.length_drop, List.length_take]; rfl)) ?_
               with_reducible refine (laws_at.calls _ _ l0 4 t242 _ ?side1 ?side2 A27.out).mono ?_
               (case side1 => repeat (first | exact (Kd.C_below HR0.out (by repeat (first | (with_reducible first | exact HB.out | apply below_alloc | apply pw_below_drewN | apply below_drew1 | refine below_set ?_ GE233.out | refine below_set ?_ GE243.out) | exact HB.out))) | (with_reducible refine Kd.C_alloc ?_ _) | (with_reducible refine Kd.C_drewN ?_ _) | (with_reducible refine Kd.C_drew ?_)))
               (case side2 => exact HC0.out)
               rintro e w' ⟨rfl, ⟨nd, rfl⟩⟩
               refine ⟨_, rfl, ?_⟩
               refine hK.out _ _ ⟨(blk_cell BK233.out 0).trans rfl, (blk_cell BK233.out 1).trans rfl, (blk_cell BK233.out 2).trans rfl⟩ (fun hHeld => ?_)
               clear hK K
               refine norm_ (a' := ?_) ?_ ?_
               rotate_left
               ·show Act.put _ (some 64) _ = _
                simp only [Act.put, List.setIfInBounds_toArray, List.set_cons_zero, List.set_cons_succ, i64_w, i32_w]
                rfl
               refine pure_ (i := 16) (N := some 65) (v := ?_) (a' := ?_) #[true, true, true, true, true, true, true, true, true, true, true, true, true, true, true, true, true, false, false, true, false] rfl rfl (any_of HT_.out (by kernel_rfl)) (fun _ _ _ h => h) (Or.inl ⟨by rfl, ?_⟩) ?_ ?_
               rotate_left
               ·intro w'
                go_simp
                with_reducible rfl
               rotate_left
               ·simp only [Act.put, List.setIfInBounds_toArray, List.set_cons_zero, List.set_cons_succ, i64_w, i32_w]
                rfl
               refine pure_ (i := 17) (N := some 66) (v := ?_) (a' := ?_) #[true, true, true, true, true, true, true, true, true, true, true, true, true, true, true, true, true, true, false, true, false] rfl rfl (any_of HT_.out (by kernel_rfl)) (fun _ _ _ h => h) (Or.inl ⟨by rfl, ?_⟩) ?_ ?_
               rotate_left
               ·intro w'
                go_simp
                with_reducible rfl
               rotate_left
               ·simp only [Act.put, List.setIfInBounds_toArray, List.set_cons_zero, List.set_cons_succ, i64_w, i32_w]
                rfl
               refine pure_ (i := 18) (N := some 67) (v := ?_) (a' := ?_) #[true, true, true, true, true, true, true, true, true, true, true, true, true, true, true, true, true, true, true, true, false] rfl rfl (any_of HT_.out (by kernel_rfl)) (fun _ _ _ h => h) (Or.inl ⟨by rfl, ?_⟩) ?_ ?_
               rotate_left
               ·intro w'
                go_simp
                with_reducible rfl
               rotate_left
               ·simp only [Act.put, List.setIfInBounds_toArray, List.set_cons_zero, List.set_cons_succ, i64_w, i32_w]
                rfl
               exact norm_ (by simp only [putAll, Act.put, List.setIfInBounds_toArray, List.set_cons_zero, List.set_cons_succ]) (hCont (gb243) _ ⟨hHeld, (by (with_reducible repeat (first | apply Kd.R_alloc | apply Kd.R_drewN | apply Kd.R_drew)); exact HO_4.out), (by (with_reducible repeat (first | refine blk_drewN ?_ _ | refine blk_drew ?_ | refine blk_alloc ?_ _)); exact BK233.out), (by (with_reducible repeat (first | refine blk_drewN ?_ _ | refine blk_drew ?_ | refine blk_alloc ?_ _)); exact BK243.out), GW243.out, GE243.out, NB233_243.out, NB243_233.out, (by repeat (first | (with_reducible first | exact HB.out | apply below_alloc | apply pw_below_drewN | apply below_drew1 | refine below_set ?_ GE233.out | refine below_set ?_ GE243.out) | exact HB.out))⟩)
             ·skip
              refine box_step ?hg (N := 7) ?hd (cs := #[.int .i64 0, .int .i64 0, .int .i64 0]) (t := 25) ?hr ?_; (case hd => rfl); (case hg => rfl); (case hr => first | (go_simp; done) | (go_simp; rfl))
              intro gb243 hg w43 hbox hb
              have n0_ := Aside0.mk (Kd.R_below (by (with_reducible repeat (first | apply Kd.R_alloc | apply Kd.R_drewN | apply Kd.R_drew)); exact HO_4.out) hb)
              have n1_ := Aside0.mk (blk_below (g := gb233) (o := .cells #[.int .i64 t227, .int .i64 t228, .int .i64 t229] 25 (0, 0)) (by (with_reducible repeat (first | refine blk_drewN ?_ _ | refine blk_drew ?_ | refine blk_alloc ?_ _)); exact BK233.out) hb)
              have n2_ := Aside0.mk (below_step (by repeat (first | (with_reducible first | exact HB.out | apply below_alloc | apply pw_below_drewN | apply below_drew1 | refine below_set ?_ GE233.out) | exact HB.out)) hb)
              have n3_ := Aside0.mk (hbox)
              have n4_ := Aside0.mk ((by rw [hg]; exact (below_size (by repeat (first | (with_reducible first | exact HB.out | apply below_alloc | apply pw_below_drewN | apply below_drew1 | refine below_set ?_ GE233.out) | exact HB.out))) : w.heap.size ≤ gb243))
              have n5_ := Aside0.mk ((by rw [hg]; exact (below_size (by repeat (first | (with_reducible first | exact HB.out | apply below_alloc | apply pw_below_drewN | apply below_drew1 | refine below_set ?_ GE233.out) | exact HB.out))) : w.heap.size ≤ gb243))
              have n6_ := Aside0.mk ((by rw [hg]; exact Nat.ne_of_lt (blk_lt (g := gb233) (o := .cells #[.int .i64 t227, .int .i64 t228, .int .i64 t229] 25 (0, 0)) (by (with_reducible repeat (first | refine blk_drewN ?_ _ | refine blk_drew ?_ | refine blk_alloc ?_ _)); exact BK233.out)) : gb233 ≠ gb243))
              have n7_ := Aside0.mk ((by rw [hg]; exact Nat.ne_of_gt (blk_lt (g := gb233) (o := .cells #[.int .i64 t227, .int .i64 t228, .int .i64 t229] 25 (0, 0)) (by (with_reducible repeat (first | refine blk_drewN ?_ _ | refine blk_drew ?_ | refine blk_alloc ?_ _)); exact BK233.out)) : gb243 ≠ gb233))
              clear HO_4
              clear BK233
              clear HB
              have HO_4 := n0_
              have BK233 := n1_
              have HB := n2_
              have BK243 := n3_
              have GW243 := n4_
              have GE243 := n5_
              have NB233_243 := n6_
              have NB243_233 := n7_
              clear n0_ n1_ n2_ n3_ n4_ n5_ n6_ n7_
              clear hb hbox hg
              refine hK.out _ _ ⟨(blk_cell BK233.out 0).trans rfl, (blk_cell BK233.out 1).trans rfl, (blk_cell BK233.out 2).trans rfl⟩ (fun hHeld => ?_)
              clear hK K
              refine norm_ (a' := ?_) ?_ ?_
              rotate_left
              ·show Act.put _ (some 7) _ = _
               simp only [Act.put, List.setIfInBounds_toArray, List.set_cons_zero, List.set_cons_succ, i64_w, i32_w]
               rfl
              refine one_ (i := 3) (N := some 52) #[true, true, true, true, false, false, true, true, true, false, false, false, true, true, true, false, false, false, false, true, false] rfl rfl (one_of HT_.out (by kernel_rfl)) (by decide) (fun K hK => ?_)
              refine goes_ Try.func10 (by kernel_rfl) rfl #[.slice A0 l0.length c0, .int .i64 2] (by rfl) rfl rfl (by (try simp only [List.map_toArray, List.map_cons, List.map_nil]); first | done | rfl | (simp only [List.length_drop, List.length_take]; rfl)) ?_
              with_reducible refine (laws_at.calls _ _ l0 2 t240 _ ?side1 ?side2 A25.out).mono ?_
              (case side1 => repeat (first | exact (Kd.C_below HR0.out HB.out) | (with_reducible refine Kd.C_alloc ?_ _) | (with_reducible refine Kd.C_drewN ?_ _) | (with_reducible refine Kd.C_drew ?_)))
              (case side2 => exact HC0.out)
              rintro e w' ⟨rfl, ⟨nd, rfl⟩⟩
              refine ⟨_, rfl, ?_⟩
              refine hK.out _ _ ⟨(blk_cell BK233.out 0).trans rfl, (blk_cell BK233.out 1).trans rfl, (blk_cell BK233.out 2).trans rfl⟩ (fun hHeld => ?_)
              clear hK K
              refine norm_ (a' := ?_) ?_ ?_
              rotate_left
              ·show Act.put _ (some 52) _ = _
               simp only [Act.put, List.setIfInBounds_toArray, List.set_cons_zero, List.set_cons_succ, i64_w, i32_w]
               rfl
              refine pure_ (i := 4) (N := some 53) (v := ?_) (a' := ?_) #[true, true, true, true, true, false, true, true, true, false, false, false, true, true, true, false, false, false, false, true, false] rfl rfl (any_of HT_.out (by kernel_rfl)) (fun _ _ _ h => h) (Or.inl ⟨by rfl, ?_⟩) ?_ ?_
              rotate_left
              ·intro w'
               go_simp
               with_reducible rfl
              rotate_left
              ·simp only [Act.put, List.setIfInBounds_toArray, List.set_cons_zero, List.set_cons_succ, i64_w, i32_w]
               rfl
              refine pure_ (i := 5) (N := some 54) (v := ?_) (a' := ?_) #[true, true, true, true, true, true, true, true, true, false, false, false, true, true, true, false, false, false, false, true, false] rfl rfl (any_of HT_.out (by kernel_rfl)) (fun _ _ _ h => h) (Or.inl ⟨by rfl, ?_⟩) ?_ ?_
              rotate_left
              ·intro w'
               go_simp
               with_reducible rfl
              rotate_left
              ·simp only [Act.put, List.setIfInBounds_toArray, List.set_cons_zero, List.set_cons_succ, i64_w, i32_w]
               rfl
              refine one_ (i := 9) (N := some 58) #[true, true, true, true, true, true, true, true, true, true, false, false, true, true, true, false, false, false, false, true, false] rfl rfl (one_of HT_.out (by kernel_rfl)) (by decide) (fun K hK => ?_)
              refine goes_ Try.func10 (by kernel_rfl) rfl #[.slice A0 l0.length c0, .int .i64 3] (by rfl) rfl rfl (by (try simp only [List.map_toArray, List.map_cons, List.map_nil]); first | done | rfl | (simp only [List.length_drop, List.length_take]; rfl)) ?_
              with_reducible refine (laws_at.calls _ _ l0 3 t241 _ ?side1 ?side2 A26.out).mono ?_
              (case side1 => repeat (first | exact (Kd.C_below HR0.out (by repeat (first | (with_reducible first | exact HB.out | apply below_alloc | apply pw_below_drewN | apply below_drew1 | refine below_set ?_ GE233.out | refine below_set ?_ GE243.out) | exact HB.out))) | (with_reducible refine Kd.C_alloc ?_ _) | (with_reducible refine Kd.C_drewN ?_ _) | (with_reducible refine Kd.C_drew ?_)))
              (case side2 => exact HC0.out)
              rintro e w' ⟨rfl, ⟨nd, rfl⟩⟩
              refine ⟨_, rfl, ?_⟩
              refine hK.out _ _ ⟨(blk_cell BK233.out 0).trans rfl, (blk_cell BK233.out 1).trans rfl, (blk_cell BK233.out 2).trans rfl⟩ (fun hHeld => ?_)
              clear hK K
              refine norm_ (a' := ?_) ?_ ?_
              rotate_left
              ·show Act.put _ (some 58) _ = _
               simp only [Act.put, List.setIfInBounds_toArray, List.set_cons_zero, List.set_cons_succ, i64_w, i32_w]
               rfl
              refine pure_ (i := 10) (N := some 59) (v := ?_) (a' := ?_) #[true, true, true, true, true, true, true, true, true, true, true, false, true, true, true, false, false, false, false, true, false] rfl rfl (any_of HT_.out (by kernel_rfl)) (fun _ _ _ h => h) (Or.inl ⟨by rfl, ?_⟩) ?_ ?_
              rotate_left
              ·intro w'
               go_simp
               with_reducible rfl
              rotate_left
              ·simp only [Act.put, List.setIfInBounds_toArray, List.set_cons_zero, List.set_cons_succ, i64_w, i32_w]
               rfl
              refine pure_ (i := 11) (N := some 60) (v := ?_) (a' := ?_) #[true, true, true, true, true, true, true, true, true, true, true, true, true, true, true, false, false, false, false, true, false] rfl rfl (any_of HT_.out (by kernel_rfl)) (fun _ _ _ h => h) (Or.inl ⟨by rfl, ?_⟩) ?_ ?_
              rotate_left
              ·intro w'
               go_simp
               with_reducible rfl
              rotate_left
              ·simp only [Act.put, List.setIfInBounds_toArray, List.set_cons_zero, List.set_cons_succ, i64_w, i32_w]
               rfl
              refine one_ (i := 15) (N := some 64) #[true, true, true, true, true, true, true, true, true, true, true, true, true, true, true, true, false, false, false, true, false] rfl rfl (one_of HT_.out (by kernel_rfl)) (by decide) (fun K hK => ?_)
              refine goes_ Try.func10 (by kernel_rfl) rfl #[.slice A0 l0.length c0, .int .i64 4] (by rfl) rfl rfl (by (try simp only [List.map_toArray, List.map_cons, List.map_nil]); first | done | rfl | (simp only [List.length_drop, List.length_take]; rfl)) ?_
              with_reducible refine (laws_at.calls _ _ l0 4 t242 _ ?side1 ?side2 A27.out).mono ?_
              (case side1 => repeat (first | exact (Kd.C_below HR0.out (by repeat (first | (with_reducible first | exact HB.out | apply below_alloc | apply pw_below_drewN | apply below_drew1 | refine below_set ?_ GE233.out | refine below_set ?_ GE243.out) | exact HB.out))) | (with_reducible refine Kd.C_alloc ?_ _) | (with_reducible refine Kd.C_drewN ?_ _) | (with_reducible refine Kd.C_drew ?_)))
              (case side2 => exact HC0.out)
              rintro e w' ⟨rfl, ⟨nd, rfl⟩⟩
              refine ⟨_, rfl, ?_⟩
              refine hK.out _ _ ⟨(blk_cell BK233.out 0).trans rfl, (blk_cell BK233.out 1).trans rfl, (blk_cell BK233.out 2).trans rfl⟩ (fun hHeld => ?_)
              clear hK K
              refine norm_ (a' := ?_) ?_ ?_
              rotate_left
              ·show Act.put _ (some 64) _ = _
               simp only [Act.put, List.setIfInBounds_toArray, List.set_cons_zero, List.set_cons_succ, i64_w, i32_w]
               rfl
              refine pure_ (i := 16) (N := some 65) (v := ?_) (a' := ?_) #[true, true, true, true, true, true, true, true, true, true, true, true, true, true, true, true, true, false, false, true, false] rfl rfl (any_of HT_.out (by kernel_rfl)) (fun _ _ _ h => h) (Or.inl ⟨by rfl, ?_⟩) ?_ ?_
              rotate_left
              ·intro w'
               go_simp
               with_reducible rfl
              rotate_left
              ·simp only [Act.put, List.setIfInBounds_toArray, List.set_cons_zero, List.set_cons_succ, i64_w, i32_w]
               rfl
              refine pure_ (i := 17) (N := some 66) (v := ?_) (a' := ?_) #[true, true, true, true, true, true, true, true, true, true, true, true, true, true, true, true, true, true, false, true, false] rfl rfl (any_of HT_.out (by kernel_rfl)) (fun _ _ _ h => h) (Or.inl ⟨by rfl, ?_⟩) ?_ ?_
              rotate_left
              ·intro w'
               go_simp
               with_reducible rfl
              rotate_left
              ·simp only [Act.put, List.setIfInBounds_toArray, List.set_cons_zero, List.set_cons_succ, i64_w, i32_w]
               rfl
              refine pure_ (i := 18) (N := some 67) (v := ?_) (a' := ?_) #[true, true, true, true, true, true, true, true, true, true, true, true, true, true, true, true, true, true, true, true, false] rfl rfl (any_of HT_.out (by kernel_rfl)) (fun _ _ _ h => h) (Or.inl ⟨by rfl, ?_⟩) ?_ ?_
              rotate_left
              ·intro w'
               go_simp
               with_reducible rfl
              rotate_left
              ·simp only [Act.put, List.setIfInBounds_toArray, List.set_cons_zero, List.set_cons_succ, i64_w, i32_w]
               rfl
              exact norm_ (by simp only [putAll, Act.put, List.setIfInBounds_toArray, List.set_cons_zero, List.set_cons_succ]) (hCont (gb243) _ ⟨hHeld, (by (with_reducible repeat (first | apply Kd.R_alloc | apply Kd.R_drewN | apply Kd.R_drew)); exact HO_4.out), (by (with_reducible repeat (first | refine blk_drewN ?_ _ | refine blk_drew ?_ | refine blk_alloc ?_ _)); exact BK233.out), (by (with_reducible repeat (first | refine blk_drewN ?_ _ | refine blk_drew ?_ | refine blk_alloc ?_ _)); exact BK243.out), GW243.out, GE243.out, NB233_243.out, NB243_233.out, (by repeat (first | (with_reducible first | exact HB.out | apply below_alloc | apply pw_below_drewN | apply below_drew1 | refine below_set ?_ GE233.out | refine below_set ?_ GE243.out) | exact HB.out))⟩)
            rintro gb243 w44 ⟨hS_, h0_, h1_, h2_, h3_, h4_, h5_, h6_, h7_⟩
            have n0_ : Aside0 (Kd.R (Kd.int .i64) 3 w44 w.heap.size (fun _ => True) (.slice Ao11 t230.length co11) t230) := ⟨h0_⟩
            have n1_ : Aside0 (w44.heap[gb233]? = some (.cells #[.int .i64 t227, .int .i64 t228, .int .i64 t229] 25 (0, 0))) := ⟨h1_⟩
            have n2_ : Aside0 (w44.heap[gb243]? = some (.cells #[.int .i64 0, .int .i64 0, .int .i64 0] 25 (0, 0))) := ⟨h2_⟩
            have n3_ : Aside0 (w.heap.size ≤ gb243) := ⟨h3_⟩
            have n4_ : Aside0 (w.heap.size ≤ gb243) := ⟨h4_⟩
            have n5_ : Aside0 (gb233 ≠ gb243) := ⟨h5_⟩
            have n6_ : Aside0 (gb243 ≠ gb233) := ⟨h6_⟩
            have n7_ : Aside0 (Below w.heap.size w w44) := ⟨h7_⟩
            clear HO_4
            clear BK233
            clear HB
            clear h0_ h1_ h2_ h3_ h4_ h5_ h6_ h7_
            have HO_4 := n0_
            have BK233 := n1_
            have BK243 := n2_
            have GW243 := n3_
            have GE243 := n4_
            have NB233_243 := n5_
            have NB243_233 := n6_
            have HB := n7_
            clear n0_ n1_ n2_ n3_ n4_ n5_ n6_ n7_
            have hHeld : w44.cell? ⟨gb233, 0, none⟩ = some (.int .i64 t227) ∧ w44.cell? ⟨gb233, 1, none⟩ = some (.int .i64 t228) ∧ w44.cell? ⟨gb233, 2, none⟩ = some (.int .i64 t229) := hS_
            refine norm_ (a' := ?_) ?_ ?_
            rotate_left
            ·simp only [putAll, Act.put, List.setIfInBounds_toArray, List.set_cons_zero, List.set_cons_succ]
             rfl
            refine one_ (i := 20) (N := none) #[true, true, true, true, true, true, true, true, true, true, true, true, true, true, true, true, true, true, true, true, true] rfl rfl (one_of HT_.out (by kernel_rfl)) (by decide) (fun K hK => ?_)
            have hs45 : w44.cell? ⟨gb243, 0, none⟩ = some (.int .i64 0) := (blk_cell BK243.out 0).trans rfl
            have hfs45 := blk_frozen BK243.out 0
            have hns45_0 := NB233_243.out
            have hms45_0 := NB243_233.out
            have hs46 : w44.cell? ⟨gb243, 1, none⟩ = some (.int .i64 0) := (blk_cell BK243.out 1).trans rfl
            have hfs46 := blk_frozen BK243.out 1
            have hns46_0 := NB233_243.out
            have hms46_0 := NB243_233.out
            have hs47 : w44.cell? ⟨gb243, 2, none⟩ = some (.int .i64 0) := (blk_cell BK243.out 2).trans rfl
            have hfs47 := blk_frozen BK243.out 2
            have hns47_0 := NB233_243.out
            have hms47_0 := NB243_233.out
            refine skip_ (w1 := ?_) (by rfl) rfl ?_ ?_
            rotate_left
            ·go_simp
             rfl
            refine hK.out _ _ ⟨((cell_far (p := ⟨gb243, _, none⟩) NB233_243.out _).trans (((cell_far (p := ⟨gb243, _, none⟩) NB233_243.out _).trans (((cell_far (p := ⟨gb243, _, none⟩) NB233_243.out _).trans (hHeld.1)))))), ((cell_far (p := ⟨gb243, _, none⟩) NB233_243.out _).trans (((cell_far (p := ⟨gb243, _, none⟩) NB233_243.out _).trans (((cell_far (p := ⟨gb243, _, none⟩) NB233_243.out _).trans (hHeld.2.1)))))), ((cell_far (p := ⟨gb243, _, none⟩) NB233_243.out _).trans (((cell_far (p := ⟨gb243, _, none⟩) NB233_243.out _).trans (((cell_far (p := ⟨gb243, _, none⟩) NB233_243.out _).trans (hHeld.2.2))))))⟩ (fun hHeld => ?_)
            clear hK K
            refine done_ (done_of HT_.out (by kernel_rfl)) ?_
            have hsd_ : ∀ (w_ : World) (n_ : Nat) (a_ : Addr) (v_ : Value), (w_.drewN n_).setCell a_ v_ = (w_.setCell a_ v_).drewN n_ := (by intro w_ n_ a_ v_; unfold World.setCell World.drewN; simp only)
            (repeat rw [hsd_])
            clear hsd_
            have n0_ : Aside0 (Kd.R (Kd.int .i64) 3 (((w44.setCell ⟨gb243, 0, none⟩ (.int .i64 (wrap64 (t227 + (Int.tmod t240 20))))).setCell ⟨gb243, 1, none⟩ (.int .i64 (wrap64 (t228 + (Int.tmod t241 20))))).setCell ⟨gb243, 2, none⟩ (.int .i64 (wrap64 (t229 + (Int.tmod t242 20))))) w.heap.size (fun _ => True) (.slice Ao11 t230.length co11) t230) := ⟨by (with_reducible repeat (first | apply Kd.R_alloc | apply Kd.R_drewN | apply Kd.R_drew)); exact Kd.R_mono (Kd.R_far (p := ⟨gb243, 2, none⟩) (Kd.R_far (p := ⟨gb243, 1, none⟩) (Kd.R_far (p := ⟨gb243, 0, none⟩) (Kd.R_types HO_4.out BK243.out (by decide)) (fun _ hk => hk.2) (.int .i64 (wrap64 (t227 + (Int.tmod t240 20))))) (fun _ hk => hk.2) (.int .i64 (wrap64 (t228 + (Int.tmod t241 20))))) (fun _ hk => hk.2) (.int .i64 (wrap64 (t229 + (Int.tmod t242 20))))) (fun _ hk => trivial)⟩
            have n1_ : Aside0 ((((w44.setCell ⟨gb243, 0, none⟩ (.int .i64 (wrap64 (t227 + (Int.tmod t240 20))))).setCell ⟨gb243, 1, none⟩ (.int .i64 (wrap64 (t228 + (Int.tmod t241 20))))).setCell ⟨gb243, 2, none⟩ (.int .i64 (wrap64 (t229 + (Int.tmod t242 20))))).heap[gb233]? = some (.cells #[.int .i64 t227, .int .i64 t228, .int .i64 t229] 25 (0, 0))) := ⟨by (with_reducible repeat (first | refine blk_drewN ?_ _ | refine blk_drew ?_ | refine blk_alloc ?_ _)); refine blk_far ?_ NB233_243.out _; (with_reducible repeat (first | refine blk_drewN ?_ _ | refine blk_drew ?_ | refine blk_alloc ?_ _)); refine blk_far ?_ NB233_243.out _; (with_reducible repeat (first | refine blk_drewN ?_ _ | refine blk_drew ?_ | refine blk_alloc ?_ _)); refine blk_far ?_ NB233_243.out _; (with_reducible repeat (first | refine blk_drewN ?_ _ | refine blk_drew ?_ | refine blk_alloc ?_ _)); exact BK233.out⟩
            have n2_ : Aside0 ((((w44.setCell ⟨gb243, 0, none⟩ (.int .i64 (wrap64 (t227 + (Int.tmod t240 20))))).setCell ⟨gb243, 1, none⟩ (.int .i64 (wrap64 (t228 + (Int.tmod t241 20))))).setCell ⟨gb243, 2, none⟩ (.int .i64 (wrap64 (t229 + (Int.tmod t242 20))))).heap[gb243]? = some (.cells #[.int .i64 (wrap64 (t227 + (Int.tmod t240 20))), .int .i64 (wrap64 (t228 + (Int.tmod t241 20))), .int .i64 (wrap64 (t229 + (Int.tmod t242 20)))] 25 (0, 0))) := ⟨by (with_reducible repeat (first | refine blk_drewN ?_ _ | refine blk_drew ?_ | refine blk_alloc ?_ _)); refine blk_put (cs := #[.int .i64 (wrap64 (t227 + (Int.tmod t240 20))), .int .i64 (wrap64 (t228 + (Int.tmod t241 20))), .int .i64 0]) ?_ 2 _ rfl; (with_reducible repeat (first | refine blk_drewN ?_ _ | refine blk_drew ?_ | refine blk_alloc ?_ _)); refine blk_put (cs := #[.int .i64 (wrap64 (t227 + (Int.tmod t240 20))), .int .i64 0, .int .i64 0]) ?_ 1 _ rfl; (with_reducible repeat (first | refine blk_drewN ?_ _ | refine blk_drew ?_ | refine blk_alloc ?_ _)); refine blk_put (cs := #[.int .i64 0, .int .i64 0, .int .i64 0]) ?_ 0 _ rfl; (with_reducible repeat (first | refine blk_drewN ?_ _ | refine blk_drew ?_ | refine blk_alloc ?_ _)); exact BK243.out⟩
            have n3_ : Aside0 (Below w.heap.size w (((w44.setCell ⟨gb243, 0, none⟩ (.int .i64 (wrap64 (t227 + (Int.tmod t240 20))))).setCell ⟨gb243, 1, none⟩ (.int .i64 (wrap64 (t228 + (Int.tmod t241 20))))).setCell ⟨gb243, 2, none⟩ (.int .i64 (wrap64 (t229 + (Int.tmod t242 20)))))) := ⟨by repeat (first | (with_reducible first | exact HB.out | apply below_alloc | apply pw_below_drewN | apply below_drew1 | refine below_set ?_ GE233.out | refine below_set ?_ GE243.out) | exact HB.out)⟩
            (try clear HO_4)
            (try clear BK233)
            (try clear BK243)
            (try clear HB)
            generalize (((w44.setCell ⟨gb243, 0, none⟩ (.int .i64 (wrap64 (t227 + (Int.tmod t240 20))))).setCell ⟨gb243, 1, none⟩ (.int .i64 (wrap64 (t228 + (Int.tmod t241 20))))).setCell ⟨gb243, 2, none⟩ (.int .i64 (wrap64 (t229 + (Int.tmod t242 20))))) = w48 at n0_ n1_ n2_ n3_ ⊢
            have HO_4 := n0_
            have BK233 := n1_
            have BK243 := n2_
            have HB := n3_
            clear n0_ n1_ n2_ n3_
            (first | (rw [drewN_self w48]; generalize hq_ : World.drewN w48 _ = w48; have n0_ : Aside0 (Kd.R (Kd.int .i64) 3 w48 w.heap.size (fun _ => True) (.slice Ao11 t230.length co11) t230) := ⟨by rw [← hq_]; exact (by (with_reducible repeat (first | apply Kd.R_alloc | apply Kd.R_drewN | apply Kd.R_drew)); exact HO_4.out)⟩; have n1_ : Aside0 (w48.heap[gb233]? = some (.cells #[.int .i64 t227, .int .i64 t228, .int .i64 t229] 25 (0, 0))) := ⟨by rw [← hq_]; exact (by (with_reducible repeat (first | refine blk_drewN ?_ _ | refine blk_drew ?_ | refine blk_alloc ?_ _)); exact BK233.out)⟩; have n2_ : Aside0 (w48.heap[gb243]? = some (.cells #[.int .i64 (wrap64 (t227 + (Int.tmod t240 20))), .int .i64 (wrap64 (t228 + (Int.tmod t241 20))), .int .i64 (wrap64 (t229 + (Int.tmod t242 20)))] 25 (0, 0))) := ⟨by rw [← hq_]; exact (by (with_reducible repeat (first | refine blk_drewN ?_ _ | refine blk_drew ?_ | refine blk_alloc ?_ _)); exact BK243.out)⟩; have n3_ : Aside0 (Below w.heap.size w w48) := ⟨by rw [← hq_]; exact (by repeat (first | (with_reducible first | exact HB.out | apply below_alloc | apply pw_below_drewN | apply below_drew1 | refine below_set ?_ GE233.out | refine below_set ?_ GE243.out) | exact HB.out))⟩; clear HO_4 BK233 BK243 HB hq_; have HO_4 := n0_; have BK233 := n1_; have BK243 := n2_; have HB := n3_; clear n0_ n1_ n2_ n3_) | (have n0_ : Aside0 (Kd.R (Kd.int .i64) 3 w48 w.heap.size (fun _ => True) (.slice Ao11 t230.length co11) t230) := ⟨(by (with_reducible repeat (first | apply Kd.R_alloc | apply Kd.R_drewN | apply Kd.R_drew)); exact HO_4.out)⟩; have n1_ : Aside0 (w48.heap[gb233]? = some (.cells #[.int .i64 t227, .int .i64 t228, .int .i64 t229] 25 (0, 0))) := ⟨(by (with_reducible repeat (first | refine blk_drewN ?_ _ | refine blk_drew ?_ | refine blk_alloc ?_ _)); exact BK233.out)⟩; have n2_ : Aside0 (w48.heap[gb243]? = some (.cells #[.int .i64 (wrap64 (t227 + (Int.tmod t240 20))), .int .i64 (wrap64 (t228 + (Int.tmod t241 20))), .int .i64 (wrap64 (t229 + (Int.tmod t242 20)))] 25 (0, 0))) := ⟨(by (with_reducible repeat (first | refine blk_drewN ?_ _ | refine blk_drew ?_ | refine blk_alloc ?_ _)); exact BK243.out)⟩; have n3_ : Aside0 (Below w.heap.size w w48) := ⟨(by repeat (first | (with_reducible first | exact HB.out | apply below_alloc | apply pw_below_drewN | apply below_drew1 | refine below_set ?_ GE233.out | refine below_set ?_ GE243.out) | exact HB.out))⟩; clear HO_4 BK233 BK243 HB; have HO_4 := n0_; have BK233 := n1_; have BK243 := n2_; have HB := n3_; clear n0_ n1_ n2_ n3_))
            have hnb49 := NB243_233.out
            have hnc49 := NB233_243.out
            have hcz50_0 : w48.cell? ⟨gb243, 0, none⟩ = some (.int .i64 (wrap64 (t227 + (Int.tmod t240 20)))) := (blk_cell BK243.out 0).trans rfl
            have hcz50_1 : w48.cell? ⟨gb243, 1, none⟩ = some (.int .i64 (wrap64 (t228 + (Int.tmod t241 20)))) := (blk_cell BK243.out 1).trans rfl
            have hcz50_2 : w48.cell? ⟨gb243, 2, none⟩ = some (.int .i64 (wrap64 (t229 + (Int.tmod t242 20)))) := (blk_cell BK243.out 2).trans rfl
            have hfz50_0 := blk_frozen BK243.out 0
            have hfz50_1 := blk_frozen BK243.out 1
            have hfz50_2 := blk_frozen BK243.out 2
            try go_wp2_with (first | ((with_reducible refine gate_callee (f := 8) rfl ?_); refine goesL_ (some 70) rfl rfl Try.func8 (by kernel_rfl) rfl #[.agg #[.int .i64 (wrap64 (t227 + (Int.tmod t240 20))), .int .i64 (wrap64 (t228 + (Int.tmod t241 20))), .int .i64 (wrap64 (t229 + (Int.tmod t242 20)))], .slice Ao11 t230.length co11] rfl (by (try simp only [List.map_toArray, List.map_cons, List.map_nil]); first | done | rfl | (simp only [List.length_drop, List.length_take]; rfl)) ?_; (with_reducible refine (impl_RunTime.calls kj6 (wrap64 (t227 + (Int.tmod t240 20))) (wrap64 (t228 + (Int.tmod t241 20))) (wrap64 (t229 + (Int.tmod t242 20))) _ _ t230 t244 _ ?side1 ?side2 A28.out).mono ?_); (case side1 => repeat (first | exact (Kd.R_reads' HO_4.out).2.2 | (with_reducible refine Kd.C_alloc ?_ _) | (with_reducible refine Kd.C_drewN ?_ _) | (with_reducible refine Kd.C_drew ?_))); (case side2 => exact (Kd.R_reads' HO_4.out).2.1); rintro e w51 ⟨rfl, hb⟩; refine ⟨_, rfl, ?_⟩; have n0_ := Aside0.mk (Kd.R_below (by (with_reducible repeat (first | apply Kd.R_alloc | apply Kd.R_drewN | apply Kd.R_drew)); exact HO_4.out) hb); have n1_ := Aside0.mk (blk_below (g := gb233) (o := .cells #[.int .i64 t227, .int .i64 t228, .int .i64 t229] 25 (0, 0)) (by (with_reducible repeat (first | refine blk_drewN ?_ _ | refine blk_drew ?_ | refine blk_alloc ?_ _)); exact BK233.out) hb); have n2_ := Aside0.mk (blk_below (g := gb243) (o := .cells #[.int .i64 (wrap64 (t227 + (Int.tmod t240 20))), .int .i64 (wrap64 (t228 + (Int.tmod t241 20))), .int .i64 (wrap64 (t229 + (Int.tmod t242 20)))] 25 (0, 0)) (by (with_reducible repeat (first | refine blk_drewN ?_ _ | refine blk_drew ?_ | refine blk_alloc ?_ _)); exact BK243.out) hb); have n3_ := Aside0.mk (below_step (by repeat (first | (with_reducible first | exact HB.out | apply below_alloc | apply pw_below_drewN | apply below_drew1 | refine below_set ?_ GE233.out | refine below_set ?_ GE243.out) | exact HB.out)) hb); clear HO_4; clear BK233; clear BK243; clear HB; have HO_4 := n0_; have BK233 := n1_; have BK243 := n2_; have HB := n3_; clear n0_ n1_ n2_ n3_; (try clear hb); (try clear hb2); (try clear hk); (try clear hi)) | ((with_reducible refine gate_dst (N := 73) rfl ?_); (try (refine gate_guard (by rfl) ?_; dsimp only)); refine Kd.R_lit (Kd.int .i64) _ 3 ?hg (N := 73) ?hd (xs := ([] : List Int)) (inner := []) (ok := fun _ => True) (okp := fun _ => True) ?hr ?hp (fun _ hk => hk) trivial (Below.refl _ _) (Nat.le_refl _) (by simp) ?_; (case hd => rfl); (case hg => rfl); (case hr => first | (go_simp; done) | (go_simp; rfl)); (case hp => exact (Reps.none _ _)); intro v246 w52 ho53 hb hg_ hnew_; clear hg_ hnew_; (first | rw [← Ny245.out] at ho53 | (simp only [Int.reduceToNat] at ho53; rw [← Ny245.out] at ho53)); have n0_ := Aside0.mk (Kd.R_elder' (by (with_reducible repeat (first | apply Kd.R_alloc | apply Kd.R_drewN | apply Kd.R_drew)); exact HO_4.out) (Kd.R_base ho53) hb); have n1_ := Aside0.mk (Kd.R_lower (Kd.R_new' ho53 (Kd.R_lt (by (with_reducible repeat (first | apply Kd.R_alloc | apply Kd.R_drewN | apply Kd.R_drew)); exact HO_4.out))) (below_size (by repeat (first | (with_reducible first | exact HB.out | apply below_alloc | apply pw_below_drewN | apply below_drew1 | refine below_set ?_ GE233.out | refine below_set ?_ GE243.out) | exact HB.out)))); have n2_ := Aside0.mk (blk_below (g := gb233) (o := .cells #[.int .i64 t227, .int .i64 t228, .int .i64 t229] 25 (0, 0)) (by (with_reducible repeat (first | refine blk_drewN ?_ _ | refine blk_drew ?_ | refine blk_alloc ?_ _)); exact BK233.out) hb); have n3_ := Aside0.mk (blk_below (g := gb243) (o := .cells #[.int .i64 (wrap64 (t227 + (Int.tmod t240 20))), .int .i64 (wrap64 (t228 + (Int.tmod t241 20))), .int .i64 (wrap64 (t229 + (Int.tmod t242 20)))] 25 (0, 0)) (by (with_reducible repeat (first | refine blk_drewN ?_ _ | refine blk_drew ?_ | refine blk_alloc ?_ _)); exact BK243.out) hb); have n4_ := Aside0.mk (below_step (by repeat (first | (with_reducible first | exact HB.out | apply below_alloc | apply pw_below_drewN | apply below_drew1 | refine below_set ?_ GE233.out | refine below_set ?_ GE243.out) | exact HB.out)) hb); clear HO_4; clear BK233; clear BK243; clear HB; have HO_4 := n0_; have HO247 := n1_; have BK233 := n2_; have BK243 := n3_; have HB := n4_; clear n0_ n1_ n2_ n3_ n4_; clear hb ho53) | ((with_reducible refine gate_builtin (b := .append) (xs := #[.tmp 73, .tmp 74]) rfl ?_); (try (refine gate_guard (by rfl) ?_; dsimp only)); at_builtin; refine Kd.R_append_rows (Kd.int .i64) (w0 := w) w.heap.size rfl (.tmp 73) (.tmp 74) 26 3 (.int .i64 0) 8 rfl Try.underlying26 info3 rfl (by decide) (by omega) v246 y245 t230 _ _ _ (fun k_ => some k_ ≠ (.slice Ao11 t230.length co11 : Value).ownBlock) (fun _ => False) rfl rfl ?aO ?aR (fun _ _ h => h) (fun _ h => h.elim) ?aF ?aB ?aS ?aL ?_; (case aR => repeat (first | exact (Kd.R_reads' HO_4.out).2.2 | (with_reducible refine Kd.C_alloc ?_ _) | (with_reducible refine Kd.C_drewN ?_ _) | (with_reducible refine Kd.C_drew ?_))); (case aB => exact (by repeat (first | (with_reducible first | exact HB.out | apply below_alloc | apply pw_below_drewN | apply below_drew1 | refine below_set ?_ GE233.out | refine below_set ?_ GE243.out) | exact HB.out))); (case aF => exact (fun k_ hk => Kd.fresh' (Kd.R_lt (by (with_reducible repeat (first | apply Kd.R_alloc | apply Kd.R_drewN | apply Kd.R_drew)); exact HO_4.out)) k_ hk)); (case aO => exact (by (with_reducible repeat (first | apply Kd.R_alloc | apply Kd.R_drewN | apply Kd.R_drew)); exact Kd.R_mono HO247.out (fun _ hk => hk.2))); (case aS => exact (below_size (by repeat (first | (with_reducible first | exact HB.out | apply below_alloc | apply pw_below_drewN | apply below_drew1 | refine below_set ?_ GE233.out | refine below_set ?_ GE243.out) | exact HB.out)))); (case aL => have := LMc30.out; omega); intro v249 w54 ho hb hg hat; rw [← Ny248.out] at ho; have n0_ := Aside0.mk (Kd.R_after (ok := (fun _ => True)) (by (with_reducible repeat (first | apply Kd.R_alloc | apply Kd.R_drewN | apply Kd.R_drew)); exact HO_4.out) hg hat); have n1_ := Aside0.mk (blk_grown (g := gb233) (o := .cells #[.int .i64 t227, .int .i64 t228, .int .i64 t229] 25 (0, 0)) (by (with_reducible repeat (first | refine blk_drewN ?_ _ | refine blk_drew ?_ | refine blk_alloc ?_ _)); exact BK233.out) hg (Kd.R_ne HO247.out BK233.out (by decide))); have n2_ := Aside0.mk (blk_grown (g := gb243) (o := .cells #[.int .i64 (wrap64 (t227 + (Int.tmod t240 20))), .int .i64 (wrap64 (t228 + (Int.tmod t241 20))), .int .i64 (wrap64 (t229 + (Int.tmod t242 20)))] 25 (0, 0)) (by (with_reducible repeat (first | refine blk_drewN ?_ _ | refine blk_drew ?_ | refine blk_alloc ?_ _)); exact BK243.out) hg (Kd.R_ne HO247.out BK243.out (by decide))); have n3_ := Aside0.mk (hb); have n4_ := Aside0.mk (ho); clear HO_4; clear BK233; clear BK243; clear HB; clear HO247; have HO_4 := n0_; have BK233 := n1_; have BK243 := n2_; have HB := n3_; have HO250 := n4_; clear n0_ n1_ n2_ n3_ n4_; clear ho hb hg hat) | ((with_reducible refine gate_callee (f := 10) rfl ?_); refine goesL_ (some 77) rfl rfl Try.func10 (by kernel_rfl) rfl #[.slice A0 l0.length c0, .int .i64 5] rfl (by (try simp only [List.map_toArray, List.map_cons, List.map_nil]); first | done | rfl | (simp only [List.length_drop, List.length_take]; rfl)) ?_; (with_reducible refine (laws_at.calls _ _ l0 5 t251 _ ?side1 ?side2 A31.out).mono ?_); (case side1 => repeat (first | exact (Kd.C_below HR0.out HB.out) | (with_reducible refine Kd.C_alloc ?_ _) | (with_reducible refine Kd.C_drewN ?_ _) | (with_reducible refine Kd.C_drew ?_))); (case side2 => exact HC0.out); rintro e w' ⟨rfl, ⟨nd, rfl⟩⟩; refine ⟨_, rfl, ?_⟩; (first | (rw [drewN_self w54]; generalize hq_ : World.drewN w54 _ = w54; have n0_ : Aside0 (Kd.R (Kd.int .i64) 3 w54 w.heap.size (fun k_ => some k_ ≠ (.slice Ao11 t230.length co11 : Value).ownBlock) v249 y248) := ⟨by rw [← hq_]; exact (by (with_reducible repeat (first | apply Kd.R_alloc | apply Kd.R_drewN | apply Kd.R_drew)); exact HO250.out)⟩; have n1_ : Aside0 (Kd.R (Kd.int .i64) 3 w54 w.heap.size (fun k_ => some k_ ≠ (v249 : Value).ownBlock) (.slice Ao11 t230.length co11) t230) := ⟨by rw [← hq_]; exact (by (with_reducible repeat (first | apply Kd.R_alloc | apply Kd.R_drewN | apply Kd.R_drew)); exact Kd.R_mono HO_4.out (fun _ hk => hk.2))⟩; have n2_ : Aside0 (w54.heap[gb233]? = some (.cells #[.int .i64 t227, .int .i64 t228, .int .i64 t229] 25 (0, 0))) := ⟨by rw [← hq_]; exact (by (with_reducible repeat (first | refine blk_drewN ?_ _ | refine blk_drew ?_ | refine blk_alloc ?_ _)); exact BK233.out)⟩; have n3_ : Aside0 (w54.heap[gb243]? = some (.cells #[.int .i64 (wrap64 (t227 + (Int.tmod t240 20))), .int .i64 (wrap64 (t228 + (Int.tmod t241 20))), .int .i64 (wrap64 (t229 + (Int.tmod t242 20)))] 25 (0, 0))) := ⟨by rw [← hq_]; exact (by (with_reducible repeat (first | refine blk_drewN ?_ _ | refine blk_drew ?_ | refine blk_alloc ?_ _)); exact BK243.out)⟩; have n4_ : Aside0 (Below w.heap.size w w54) := ⟨by rw [← hq_]; exact (by repeat (first | (with_reducible first | exact HB.out | apply below_alloc | apply pw_below_drewN | apply below_drew1 | refine below_set ?_ GE233.out | refine below_set ?_ GE243.out) | exact HB.out))⟩; clear HO250 HO_4 BK233 BK243 HB hq_; have HO250 := n0_; have HO_4 := n1_; have BK233 := n2_; have BK243 := n3_; have HB := n4_; clear n0_ n1_ n2_ n3_ n4_) | (have n0_ : Aside0 (Kd.R (Kd.int .i64) 3 w54 w.heap.size (fun k_ => some k_ ≠ (.slice Ao11 t230.length co11 : Value).ownBlock) v249 y248) := ⟨(by (with_reducible repeat (first | apply Kd.R_alloc | apply Kd.R_drewN | apply Kd.R_drew)); exact HO250.out)⟩; have n1_ : Aside0 (Kd.R (Kd.int .i64) 3 w54 w.heap.size (fun k_ => some k_ ≠ (v249 : Value).ownBlock) (.slice Ao11 t230.length co11) t230) := ⟨(by (with_reducible repeat (first | apply Kd.R_alloc | apply Kd.R_drewN | apply Kd.R_drew)); exact Kd.R_mono HO_4.out (fun _ hk => hk.2))⟩; have n2_ : Aside0 (w54.heap[gb233]? = some (.cells #[.int .i64 t227, .int .i64 t228, .int .i64 t229] 25 (0, 0))) := ⟨(by (with_reducible repeat (first | refine blk_drewN ?_ _ | refine blk_drew ?_ | refine blk_alloc ?_ _)); exact BK233.out)⟩; have n3_ : Aside0 (w54.heap[gb243]? = some (.cells #[.int .i64 (wrap64 (t227 + (Int.tmod t240 20))), .int .i64 (wrap64 (t228 + (Int.tmod t241 20))), .int .i64 (wrap64 (t229 + (Int.tmod t242 20)))] 25 (0, 0))) := ⟨(by (with_reducible repeat (first | refine blk_drewN ?_ _ | refine blk_drew ?_ | refine blk_alloc ?_ _)); exact BK243.out)⟩; have n4_ : Aside0 (Below w.heap.size w w54) := ⟨(by repeat (first | (with_reducible first | exact HB.out | apply below_alloc | apply pw_below_drewN | apply below_drew1 | refine below_set ?_ GE233.out | refine below_set ?_ GE243.out) | exact HB.out))⟩; clear HO250 HO_4 BK233 BK243 HB; have HO250 := n0_; have HO_4 := n1_; have BK233 := n2_; have BK243 := n3_; have HB := n4_; clear n0_ n1_ n2_ n3_ n4_)); obtain ⟨Ao55, co55, eo55⟩ := Kd.R_slice HO250.out; subst eo55))
            have n0_ := Aside0.mk (Kd.R_drew HO_4.out)
            have n1_ := Aside0.mk (Kd.R_drew HO250.out)
            have n2_ := Aside0.mk (blk_drew BK233.out)
            have n3_ := Aside0.mk (blk_drew BK243.out)
            have n4_ := Aside0.mk (below_drew1 HB.out)
            clear HO_4
            clear HO250
            clear BK233
            clear BK243
            clear HB
            have HO_4 := n0_
            have HO250 := n1_
            have BK233 := n2_
            have BK243 := n3_
            have HB := n4_
            clear n0_ n1_ n2_ n3_ n4_
            have p252 : 0 ≤ ((ji33) : Int) := of_decide_eq_true (by first | (with_reducible assumption) | assumption)
            have q252 : (ji33) < (y248.length : Int) := of_decide_eq_true (by first | (with_reducible assumption) | assumption)
            obtain ⟨ad252, e252, hx252_0⟩ := Kd.at_int (Kd.R_reads' HO250.out).2.2 (ji33) p252 q252
            cases e252
            replace p252 := eq_true p252
            replace q252 := eq_true q252
            refine start_ (n := 13) (S := fun w' => w'.cell? (ad252.add ((ji33)).toNat) = some (.int .i64 (rd y248 (ji33)))) (ds := [12]) #[false, false, false, false, false, false, false, false, false, false, false, false, false] (by kernel_rfl) rfl rfl (hx252_0) (fun hHeld => ?_); refine with_tabW laws_FnFaster.tab13 laws_FnFaster.bits13 (fun HT_ HW_ => ?_)
            generalize w54.drew = w56 at HO_4 HO250 BK233 BK243 HB hx252_0 hHeld ⊢
            refine pure_ (i := 0) (N := some 81) (v := ?_) (a' := ?_) #[true, false, false, false, false, false, false, false, false, false, false, false, false] rfl rfl (any_of HT_.out (by kernel_rfl)) (fun _ _ _ h => h) (Or.inl ⟨by rfl, ?_⟩) ?_ ?_
            rotate_left
            ·intro w'
             go_simp
             with_reducible rfl
            rotate_left
            ·simp only [Act.put, List.setIfInBounds_toArray, List.set_cons_zero, List.set_cons_succ, i64_w, i32_w]
             rfl
            refine pure_ (i := 1) (N := some 82) (v := ?_) (a' := ?_) #[true, true, false, false, false, false, false, false, false, false, false, false, false] rfl rfl (any_of HT_.out (by kernel_rfl)) (fun _ _ _ h => h) (Or.inl ⟨by rfl, ?_⟩) ?_ ?_
            rotate_left
            ·intro w'
             go_simp
             with_reducible rfl
            rotate_left
            ·simp only [Act.put, List.setIfInBounds_toArray, List.set_cons_zero, List.set_cons_succ, i64_w, i32_w]
             rfl
            refine pure_ (i := 2) (N := some 83) (v := ?_) (a' := ?_) #[true, true, true, false, false, false, false, false, false, false, false, false, false] rfl rfl (any_of HT_.out (by kernel_rfl)) (fun _ _ _ h => h) (Or.inl ⟨by rfl, ?_⟩) ?_ ?_
            rotate_left
            ·intro w'
             go_simp
             with_reducible rfl
            rotate_left
            ·simp only [Act.put, List.setIfInBounds_toArray, List.set_cons_zero, List.set_cons_succ, i64_w, i32_w]
             rfl
            refine pure_ (i := 3) (N := some 84) (v := ?_) (a' := ?_) #[true, true, true, true, false, false, false, false, false, false, false, false, false] rfl rfl (any_of HT_.out (by kernel_rfl)) (fun _ _ _ h => h) (Or.inl ⟨by rfl, ?_⟩) ?_ ?_
            rotate_left
            ·intro w'
             go_simp
             with_reducible rfl
            rotate_left
            ·simp only [Act.put, List.setIfInBounds_toArray, List.set_cons_zero, List.set_cons_succ, i64_w, i32_w]
             rfl
            refine pure_ (i := 4) (N := some 85) (v := ?_) (a' := ?_) #[true, true, true, true, true, false, false, false, false, false, false, false, false] rfl rfl (any_of HT_.out (by kernel_rfl)) (fun _ _ _ h => h) (Or.inl ⟨by rfl, ?_⟩) ?_ ?_
            rotate_left
            ·intro w'
             go_simp
             with_reducible rfl
            rotate_left
            ·simp only [Act.put, List.setIfInBounds_toArray, List.set_cons_zero, List.set_cons_succ, i64_w, i32_w]
             rfl
            refine pure_ (i := 7) (N := some 88) (v := ?_) (a' := ?_) #[true, true, true, true, true, false, false, true, false, false, false, false, false] rfl rfl (any_of HT_.out (by kernel_rfl)) (fun _ _ _ h => h) (Or.inl ⟨by rfl, ?_⟩) ?_ ?_
            rotate_left
            ·intro w'
             go_simp
             with_reducible rfl
            rotate_left
            ·simp only [Act.put, List.setIfInBounds_toArray, List.set_cons_zero, List.set_cons_succ, i64_w, i32_w]
             rfl
            refine take_ (i := 5) (N := some 86) (v := ?_) (a' := ?_) #[true, true, true, true, true, true, false, true, false, false, false, false, false] rfl rfl (take_ofW HT_.out HW_.out (by kernel_rfl)) (fun _ _ _ h => h) (Or.inl ⟨by rfl, ?_⟩) hHeld ?_ ?_
            rotate_left
            ·intro w' s0
             go_simp
             with_reducible rfl
            rotate_left
            ·simp only [Act.put, List.setIfInBounds_toArray, List.set_cons_zero, List.set_cons_succ, i64_w, i32_w]
             rfl
            refine pure_ (i := 6) (N := some 87) (v := ?_) (a' := ?_) #[true, true, true, true, true, true, true, true, false, false, false, false, false] rfl rfl (any_of HT_.out (by kernel_rfl)) (fun _ _ _ h => h) (Or.inl ⟨by rfl, ?_⟩) ?_ ?_
            rotate_left
            ·intro w'
             go_simp
             with_reducible rfl
            rotate_left
            ·simp only [Act.put, List.setIfInBounds_toArray, List.set_cons_zero, List.set_cons_succ, i64_w, i32_w]
             rfl
            refine one_ (i := 8) (N := some 89) #[true, true, true, true, true, true, true, true, true, false, false, false, false] rfl rfl (one_of HT_.out (by kernel_rfl)) (by decide) (fun K hK => ?_)
            refine goes_ Try.func10 (by kernel_rfl) rfl #[.slice A0 l0.length c0, .int .i64 6] (by rfl) rfl rfl (by (try simp only [List.map_toArray, List.map_cons, List.map_nil]); first | done | rfl | (simp only [List.length_drop, List.length_take]; rfl)) ?_
            with_reducible refine (laws_at.calls _ _ l0 6 t253 _ ?side1 ?side2 A36.out).mono ?_
            (case side1 => repeat (first | exact (Kd.C_below HR0.out HB.out) | (with_reducible refine Kd.C_alloc ?_ _) | (with_reducible refine Kd.C_drewN ?_ _) | (with_reducible refine Kd.C_drew ?_)))
            (case side2 => exact HC0.out)
            rintro e w' ⟨rfl, ⟨nd, rfl⟩⟩
            refine ⟨_, rfl, ?_⟩
            have p37 : 0 ≤ ((ji33) : Int) := of_decide_eq_true (by first | (with_reducible assumption) | assumption)
            have q37 : ((ji33) : Int) < ((y248.length : Int) : Int) := of_decide_eq_true (by first | (with_reducible assumption) | assumption)
            obtain ⟨go37, co37, eo37, gb37, gl37, cl37, HG37⟩ := Kd.R_form HO250.out (by omega)
            (first | cases eo37 | (injection eo37 with ea_ en_ ec_; (first | subst ea_ | (injection ea_ with ea_; subst ea_)); subst ec_; clear en_))
            have GB37 := Aside0.mk gb37
            have GG37 := Aside0.mk HG37
            clear gb37 gl37 HG37
            (first | simp only [add_plain] at hx252_0 | skip)
            obtain ⟨hx37_0, hf37_0⟩ := Kd.R_celln 0 HO250.out ((ji33) : Int) p37 q37
            replace p37 := eq_true p37
            replace q37 := eq_true q37
            have HP57 := Kd.R_putn HO250.out ((ji33) : Int) (wrap64 ((wrap64 ((rd y248 (ji33)) + 1)) + (Int.tmod t253 20)))
            rw [← Ny254.out] at HP57
            have HQ57 := Aside0.mk HP57
            clear HP57
            refine hK.out _ _ (hHeld) (fun hHeld => ?_)
            clear hK K
            refine norm_ (a' := ?_) ?_ ?_
            rotate_left
            ·show Act.put _ (some 89) _ = _
             simp only [Act.put, List.setIfInBounds_toArray, List.set_cons_zero, List.set_cons_succ, i64_w, i32_w]
             rfl
            refine pure_ (i := 9) (N := some 90) (v := ?_) (a' := ?_) #[true, true, true, true, true, true, true, true, true, true, false, false, false] rfl rfl (any_of HT_.out (by kernel_rfl)) (fun _ _ _ h => h) (Or.inl ⟨by rfl, ?_⟩) ?_ ?_
            rotate_left
            ·intro w'
             go_simp
             with_reducible rfl
            rotate_left
            ·simp only [Act.put, List.setIfInBounds_toArray, List.set_cons_zero, List.set_cons_succ, i64_w, i32_w]
             rfl
            refine pure_ (i := 10) (N := some 91) (v := ?_) (a' := ?_) #[true, true, true, true, true, true, true, true, true, true, true, false, false] rfl rfl (any_of HT_.out (by kernel_rfl)) (fun _ _ _ h => h) (Or.inl ⟨by rfl, ?_⟩) ?_ ?_
            rotate_left
            ·intro w'
             go_simp
             with_reducible rfl
            rotate_left
            ·simp only [Act.put, List.setIfInBounds_toArray, List.set_cons_zero, List.set_cons_succ, i64_w, i32_w]
             rfl
            refine pure_ (i := 11) (N := some 92) (v := ?_) (a' := ?_) #[true, true, true, true, true, true, true, true, true, true, true, true, false] rfl rfl (any_of HT_.out (by kernel_rfl)) (fun _ _ _ h => h) (Or.inl ⟨by rfl, ?_⟩) ?_ ?_
            rotate_left
            ·intro w'
             go_simp
             with_reducible rfl
            rotate_left
            ·simp only [Act.put, List.setIfInBounds_toArray, List.set_cons_zero, List.set_cons_succ, i64_w, i32_w]
             rfl
            refine last_ (i := 12) (N := none) #[true, true, true, true, true, true, true, true, true, true, true, true, true] rfl rfl (one_of HT_.out (by kernel_rfl)) (by decide) (fun K hK => ?_)
            refine skip_ (w1 := ?_) (by rfl) rfl ?_ ?_
            rotate_left
            ·go_simp
             rfl
            refine hK.out _ _ ?_
            clear hK K
            refine done_ (done_of HT_.out (by kernel_rfl)) ?_
            have hsd_ : ∀ (w_ : World) (n_ : Nat) (a_ : Addr) (v_ : Value), (w_.drewN n_).setCell a_ v_ = (w_.setCell a_ v_).drewN n_ := (by intro w_ n_ a_ v_; unfold World.setCell World.drewN; simp only)
            (repeat rw [hsd_])
            clear hsd_
            have n0_ : Aside0 (Kd.R (Kd.int .i64) 3 (w56.setCell ⟨go37, ((ji33) : Int).toNat, none⟩ (.int .i64 (wrap64 ((wrap64 ((rd y248 (ji33)) + 1)) + (Int.tmod t253 20))))) w.heap.size (fun k_ => some k_ ≠ (.slice (some ⟨go37, 0, none⟩) y248.length co55 : Value).ownBlock) (.slice Ao11 t230.length co11) t230) := ⟨by (with_reducible repeat (first | apply Kd.R_alloc | apply Kd.R_drewN | apply Kd.R_drew)); exact Kd.R_mono (Kd.R_far (p := ⟨go37, ((ji33) : Int).toNat, none⟩) (Kd.R_mono HO_4.out (fun k_ hk => (⟨hk, fun e_ => hk (by rw [e_]; rfl)⟩ : _ ∧ k_ ≠ go37))) (fun _ hk => hk.2) (.int .i64 (wrap64 ((wrap64 ((rd y248 (ji33)) + 1)) + (Int.tmod t253 20))))) (fun _ hk => hk.1)⟩
            have n1_ : Aside0 (Kd.R (Kd.int .i64) 3 (w56.setCell ⟨go37, ((ji33) : Int).toNat, none⟩ (.int .i64 (wrap64 ((wrap64 ((rd y248 (ji33)) + 1)) + (Int.tmod t253 20))))) w.heap.size (fun k_ => some k_ ≠ (.slice Ao11 t230.length co11 : Value).ownBlock) (.slice (some ⟨go37, 0, none⟩) y248.length co55) y254) := ⟨by (with_reducible repeat (first | apply Kd.R_alloc | apply Kd.R_drewN | apply Kd.R_drew)); exact HQ57.out⟩
            have n2_ : Aside0 ((w56.setCell ⟨go37, ((ji33) : Int).toNat, none⟩ (.int .i64 (wrap64 ((wrap64 ((rd y248 (ji33)) + 1)) + (Int.tmod t253 20))))).heap[gb233]? = some (.cells #[.int .i64 t227, .int .i64 t228, .int .i64 t229] 25 (0, 0))) := ⟨by (with_reducible repeat (first | refine blk_drewN ?_ _ | refine blk_drew ?_ | refine blk_alloc ?_ _)); refine blk_far ?_ (by have h_ := Kd.R_ne HO250.out BK233.out (by decide); intro e_; exact h_ (by rw [e_]; rfl)) _; (with_reducible repeat (first | refine blk_drewN ?_ _ | refine blk_drew ?_ | refine blk_alloc ?_ _)); exact BK233.out⟩
            have n3_ : Aside0 ((w56.setCell ⟨go37, ((ji33) : Int).toNat, none⟩ (.int .i64 (wrap64 ((wrap64 ((rd y248 (ji33)) + 1)) + (Int.tmod t253 20))))).heap[gb243]? = some (.cells #[.int .i64 (wrap64 (t227 + (Int.tmod t240 20))), .int .i64 (wrap64 (t228 + (Int.tmod t241 20))), .int .i64 (wrap64 (t229 + (Int.tmod t242 20)))] 25 (0, 0))) := ⟨by (with_reducible repeat (first | refine blk_drewN ?_ _ | refine blk_drew ?_ | refine blk_alloc ?_ _)); refine blk_far ?_ (by have h_ := Kd.R_ne HO250.out BK243.out (by decide); intro e_; exact h_ (by rw [e_]; rfl)) _; (with_reducible repeat (first | refine blk_drewN ?_ _ | refine blk_drew ?_ | refine blk_alloc ?_ _)); exact BK243.out⟩
            have n4_ : Aside0 (Below w.heap.size w (w56.setCell ⟨go37, ((ji33) : Int).toNat, none⟩ (.int .i64 (wrap64 ((wrap64 ((rd y248 (ji33)) + 1)) + (Int.tmod t253 20)))))) := ⟨by repeat (first | (with_reducible first | exact HB.out | apply below_alloc | apply pw_below_drewN | apply below_drew1 | refine below_set ?_ GB37.out | refine below_set ?_ GE233.out | refine below_set ?_ GE243.out) | exact HB.out)⟩
            (try clear HO_4)
            (try clear HO250)
            (try clear BK233)
            (try clear BK243)
            (try clear HB)
            generalize (w56.setCell ⟨go37, ((ji33) : Int).toNat, none⟩ (.int .i64 (wrap64 ((wrap64 ((rd y248 (ji33)) + 1)) + (Int.tmod t253 20))))) = w58 at n0_ n1_ n2_ n3_ n4_ ⊢
            have HO_4 := n0_
            have HO250 := n1_
            have BK233 := n2_
            have BK243 := n3_
            have HB := n4_
            clear n0_ n1_ n2_ n3_ n4_
            (first | (rw [drewN_self w58]; generalize hq_ : World.drewN w58 _ = w58; have n0_ : Aside0 (Kd.R (Kd.int .i64) 3 w58 w.heap.size (fun k_ => some k_ ≠ (.slice Ao11 t230.length co11 : Value).ownBlock) (.slice (some ⟨go37, 0, none⟩) y248.length co55) y254) := ⟨by rw [← hq_]; exact (by (with_reducible repeat (first | apply Kd.R_alloc | apply Kd.R_drewN | apply Kd.R_drew)); exact HO250.out)⟩; have n1_ : Aside0 (Kd.R (Kd.int .i64) 3 w58 w.heap.size (fun k_ => some k_ ≠ (.slice (some ⟨go37, 0, none⟩) y248.length co55 : Value).ownBlock) (.slice Ao11 t230.length co11) t230) := ⟨by rw [← hq_]; exact (by (with_reducible repeat (first | apply Kd.R_alloc | apply Kd.R_drewN | apply Kd.R_drew)); exact HO_4.out)⟩; have n2_ : Aside0 (w58.heap[gb233]? = some (.cells #[.int .i64 t227, .int .i64 t228, .int .i64 t229] 25 (0, 0))) := ⟨by rw [← hq_]; exact (by (with_reducible repeat (first | refine blk_drewN ?_ _ | refine blk_drew ?_ | refine blk_alloc ?_ _)); exact BK233.out)⟩; have n3_ : Aside0 (w58.heap[gb243]? = some (.cells #[.int .i64 (wrap64 (t227 + (Int.tmod t240 20))), .int .i64 (wrap64 (t228 + (Int.tmod t241 20))), .int .i64 (wrap64 (t229 + (Int.tmod t242 20)))] 25 (0, 0))) := ⟨by rw [← hq_]; exact (by (with_reducible repeat (first | refine blk_drewN ?_ _ | refine blk_drew ?_ | refine blk_alloc ?_ _)); exact BK243.out)⟩; have n4_ : Aside0 (Below w.heap.size w w58) := ⟨by rw [← hq_]; exact (by repeat (first | (with_reducible first | exact HB.out | apply below_alloc | apply pw_below_drewN | apply below_drew1 | refine below_set ?_ GE233.out | refine below_set ?_ GE243.out) | exact HB.out))⟩; clear HO250 HO_4 BK233 BK243 HB hq_; have HO250 := n0_; have HO_4 := n1_; have BK233 := n2_; have BK243 := n3_; have HB := n4_; clear n0_ n1_ n2_ n3_ n4_) | (have n0_ : Aside0 (Kd.R (Kd.int .i64) 3 w58 w.heap.size (fun k_ => some k_ ≠ (.slice Ao11 t230.length co11 : Value).ownBlock) (.slice (some ⟨go37, 0, none⟩) y248.length co55) y254) := ⟨(by (with_reducible repeat (first | apply Kd.R_alloc | apply Kd.R_drewN | apply Kd.R_drew)); exact HO250.out)⟩; have n1_ : Aside0 (Kd.R (Kd.int .i64) 3 w58 w.heap.size (fun k_ => some k_ ≠ (.slice (some ⟨go37, 0, none⟩) y248.length co55 : Value).ownBlock) (.slice Ao11 t230.length co11) t230) := ⟨(by (with_reducible repeat (first | apply Kd.R_alloc | apply Kd.R_drewN | apply Kd.R_drew)); exact HO_4.out)⟩; have n2_ : Aside0 (w58.heap[gb233]? = some (.cells #[.int .i64 t227, .int .i64 t228, .int .i64 t229] 25 (0, 0))) := ⟨(by (with_reducible repeat (first | refine blk_drewN ?_ _ | refine blk_drew ?_ | refine blk_alloc ?_ _)); exact BK233.out)⟩; have n3_ : Aside0 (w58.heap[gb243]? = some (.cells #[.int .i64 (wrap64 (t227 + (Int.tmod t240 20))), .int .i64 (wrap64 (t228 + (Int.tmod t241 20))), .int .i64 (wrap64 (t229 + (Int.tmod t242 20)))] 25 (0, 0))) := ⟨(by (with_reducible repeat (first | refine blk_drewN ?_ _ | refine blk_drew ?_ | refine blk_alloc ?_ _)); exact BK243.out)⟩; have n4_ : Aside0 (Below w.heap.size w w58) := ⟨(by repeat (first | (with_reducible first | exact HB.out | apply below_alloc | apply pw_below_drewN | apply below_drew1 | refine below_set ?_ GE233.out | refine below_set ?_ GE243.out) | exact HB.out))⟩; clear HO250 HO_4 BK233 BK243 HB; have HO250 := n0_; have HO_4 := n1_; have BK233 := n2_; have BK243 := n3_; have HB := n4_; clear n0_ n1_ n2_ n3_ n4_))
            have hcz59_0 : w58.cell? ⟨gb233, 0, none⟩ = some (.int .i64 t227) := (blk_cell BK233.out 0).trans rfl
            have hcz59_1 : w58.cell? ⟨gb233, 1, none⟩ = some (.int .i64 t228) := (blk_cell BK233.out 1).trans rfl
            have hcz59_2 : w58.cell? ⟨gb233, 2, none⟩ = some (.int .i64 t229) := (blk_cell BK233.out 2).trans rfl
            have hfz59_0 := blk_frozen BK233.out 0
            have hfz59_1 := blk_frozen BK233.out 1
            have hfz59_2 := blk_frozen BK233.out 2
            try go_wp2_with (first | ((with_reducible refine gate_callee (f := 8) rfl ?_); refine goesL_ (some 95) rfl rfl Try.func8 (by kernel_rfl) rfl #[.agg #[.int .i64 t227, .int .i64 t228, .int .i64 t229], .slice (some ⟨go37, 0, none⟩) y254.length co55] rfl (by (try simp only [List.map_toArray, List.map_cons, List.map_nil]); first | done | (rw [show y254.length = y248.length from (Kd.R_reads' HO250.out).1.symm] <;> rfl) | rfl | (simp only [List.length_drop, List.length_take]; rfl)) ?_; (with_reducible refine (impl_RunTime.calls kj6 t227 t228 t229 _ _ y254 t255 _ ?side1 ?side2 A38.out).mono ?_); (case side1 => repeat (first | exact (Kd.R_reads' HO250.out).2.2 | (with_reducible refine Kd.C_alloc ?_ _) | (with_reducible refine Kd.C_drewN ?_ _) | (with_reducible refine Kd.C_drew ?_))); (case side2 => rw [show y254.length = y248.length from (Kd.R_reads' HO250.out).1.symm]; exact (Kd.R_reads' HO250.out).2.1); rintro e w60 ⟨rfl, hb⟩; refine ⟨_, rfl, ?_⟩; have n0_ := Aside0.mk (Kd.R_below (by (with_reducible repeat (first | apply Kd.R_alloc | apply Kd.R_drewN | apply Kd.R_drew)); exact HO_4.out) hb); have n1_ := Aside0.mk (Kd.R_below (by (with_reducible repeat (first | apply Kd.R_alloc | apply Kd.R_drewN | apply Kd.R_drew)); exact HO250.out) hb); have n2_ := Aside0.mk (blk_below (g := gb233) (o := .cells #[.int .i64 t227, .int .i64 t228, .int .i64 t229] 25 (0, 0)) (by (with_reducible repeat (first | refine blk_drewN ?_ _ | refine blk_drew ?_ | refine blk_alloc ?_ _)); exact BK233.out) hb); have n3_ := Aside0.mk (blk_below (g := gb243) (o := .cells #[.int .i64 (wrap64 (t227 + (Int.tmod t240 20))), .int .i64 (wrap64 (t228 + (Int.tmod t241 20))), .int .i64 (wrap64 (t229 + (Int.tmod t242 20)))] 25 (0, 0)) (by (with_reducible repeat (first | refine blk_drewN ?_ _ | refine blk_drew ?_ | refine blk_alloc ?_ _)); exact BK243.out) hb); have n4_ := Aside0.mk (below_step (by repeat (first | (with_reducible first | exact HB.out | apply below_alloc | apply pw_below_drewN | apply below_drew1 | refine below_set ?_ GE233.out | refine below_set ?_ GE243.out) | exact HB.out)) hb); clear HO_4; clear HO250; clear BK233; clear BK243; clear HB; have HO_4 := n0_; have HO250 := n1_; have BK233 := n2_; have BK243 := n3_; have HB := n4_; clear n0_ n1_ n2_ n3_ n4_; (try clear hb); (try clear hb2); (try clear hk); (try clear hi); have hcz61_0 : w60.cell? ⟨gb233, 0, none⟩ = some (.int .i64 t227) := (blk_cell BK233.out 0).trans rfl; have hcz61_1 : w60.cell? ⟨gb233, 1, none⟩ = some (.int .i64 t228) := (blk_cell BK233.out 1).trans rfl; have hcz61_2 : w60.cell? ⟨gb233, 2, none⟩ = some (.int .i64 t229) := (blk_cell BK233.out 2).trans rfl; have hfz61_0 := blk_frozen BK233.out 0; have hfz61_1 := blk_frozen BK233.out 1; have hfz61_2 := blk_frozen BK233.out 2) | ((with_reducible refine gate_callee (f := 11) rfl ?_); refine goesL_ (some 103) rfl rfl Try.func11 (by kernel_rfl) rfl #[.agg #[.int .i64 t227, .int .i64 t228, .int .i64 t229], .slice Ao11 t230.length co11, .int .i64 1] rfl (by (try simp only [List.map_toArray, List.map_cons, List.map_nil]); first | done | rfl | (simp only [List.length_drop, List.length_take]; rfl)) ?_; (with_reducible refine (impl_WithStop.calls kj6 t227 t228 t229 _ _ t230 1 t256 _ ?side1 ?side2 A41.out).mono ?_); (case side1 => repeat (first | exact (Kd.R_reads' HO_4.out).2.2 | (with_reducible refine Kd.C_alloc ?_ _) | (with_reducible refine Kd.C_drewN ?_ _) | (with_reducible refine Kd.C_drew ?_))); (case side2 => exact (Kd.R_reads' HO_4.out).2.1); rintro e w62 ⟨rfl, hb⟩; refine ⟨_, rfl, ?_⟩; have n0_ := Aside0.mk (Kd.R_below (by (with_reducible repeat (first | apply Kd.R_alloc | apply Kd.R_drewN | apply Kd.R_drew)); exact HO_4.out) hb); have n1_ := Aside0.mk (Kd.R_below (by (with_reducible repeat (first | apply Kd.R_alloc | apply Kd.R_drewN | apply Kd.R_drew)); exact HO250.out) hb); have n2_ := Aside0.mk (blk_below (g := gb233) (o := .cells #[.int .i64 t227, .int .i64 t228, .int .i64 t229] 25 (0, 0)) (by (with_reducible repeat (first | refine blk_drewN ?_ _ | refine blk_drew ?_ | refine blk_alloc ?_ _)); exact BK233.out) hb); have n3_ := Aside0.mk (blk_below (g := gb243) (o := .cells #[.int .i64 (wrap64 (t227 + (Int.tmod t240 20))), .int .i64 (wrap64 (t228 + (Int.tmod t241 20))), .int .i64 (wrap64 (t229 + (Int.tmod t242 20)))] 25 (0, 0)) (by (with_reducible repeat (first | refine blk_drewN ?_ _ | refine blk_drew ?_ | refine blk_alloc ?_ _)); exact BK243.out) hb); have n4_ := Aside0.mk (below_step (by repeat (first | (with_reducible first | exact HB.out | apply below_alloc | apply pw_below_drewN | apply below_drew1 | refine below_set ?_ GE233.out | refine below_set ?_ GE243.out) | exact HB.out)) hb); clear HO_4; clear HO250; clear BK233; clear BK243; clear HB; have HO_4 := n0_; have HO250 := n1_; have BK233 := n2_; have BK243 := n3_; have HB := n4_; clear n0_ n1_ n2_ n3_ n4_; (try clear hb); (try clear hb2); (try clear hk); (try clear hi)))
            go_ret
            exact ⟨by first | rfl | (simp [errW_none, errW_some] <;> rfl) | (simp only [← hji33]; first | rfl | (simp [errW_none, errW_some] <;> rfl)) | (simp [*, errW_none, errW_some] <;> rfl), by repeat (first | (with_reducible first | exact HB.out | apply below_alloc | apply pw_below_drewN | apply below_drew1 | refine below_set ?_ GE233.out | refine below_set ?_ GE243.out) | exact HB.out)⟩
           ·rw [if_neg c40] at H
            have c40b0 : decide ((t230.length : Int) < 2) = false := decide_eq_false c40
            have c40b1 : decide (t230.length < 2) = false := decide_eq_false (by omega)
            clear c40
            replace H := Option.bind_eq_some_iff.mp H
            obtain ⟨t257, A630, H⟩ := H
            replace H : (if (wrap64 ((t230.length : Int) - 1)) = 0 then (none) else ((impl_WithStop.f kj6 t227 t228 t229 t230 (wrap64 (1 + (Int.tmod t257 (wrap64 ((t230.length : Int) - 1)))))).bind fun t258 => (if t258 ≥ t234 then ((impl_WithStop.f kj6 t227 t228 t229 t230 (wrap64 (1 + (Int.tmod t257 (wrap64 ((t230.length : Int) - 1)))))).bind fun t259 => (if 0 ≤ (wrap64 (1 + (Int.tmod t257 (wrap64 ((t230.length : Int) - 1))))) then (if (wrap64 (1 + (Int.tmod t257 (wrap64 ((t230.length : Int) - 1))))) ≤ (t230.length : Int) then ((impl_RunTime.f kj6 t227 t228 t229 (t230.take ((wrap64 (1 + (Int.tmod t257 (wrap64 ((t230.length : Int) - 1))))) : Int).toNat)).bind fun t264 => ((impl_RunTime.f kj6 t227 t228 t229 (t230.drop ((wrap64 (1 + (Int.tmod t257 (wrap64 ((t230.length : Int) - 1))))) : Int).toNat)).bind fun t269 => (some (t259 == (wrap64 (t264 + t269)))))) else (none)) else (none))) else (some false)))) = some true := H
            have A63 := Aside0.mk A630
            clear A630
            by_cases c64 : (wrap64 ((t230.length : Int) - 1)) = 0
            ·rw [if_pos c64] at H
             exact absurd H (by simp)
            ·rw [if_neg c64] at H
             have c64b0 : ((wrap64 ((t230.length : Int) - 1)) == 0) = false := beq_eq_false_iff_ne.mpr c64
             have c64b1 : ((wrap64 ((t230.length : Int) - 1)) != 0) = true := bne_iff_ne.mpr c64
             replace H := Option.bind_eq_some_iff.mp H
             obtain ⟨t258, A650, H⟩ := H
             replace H : (if t258 ≥ t234 then ((impl_WithStop.f kj6 t227 t228 t229 t230 (wrap64 (1 + (Int.tmod t257 (wrap64 ((t230.length : Int) - 1)))))).bind fun t259 => (if 0 ≤ (wrap64 (1 + (Int.tmod t257 (wrap64 ((t230.length : Int) - 1))))) then (if (wrap64 (1 + (Int.tmod t257 (wrap64 ((t230.length : Int) - 1))))) ≤ (t230.length : Int) then ((impl_RunTime.f kj6 t227 t228 t229 (t230.take ((wrap64 (1 + (Int.tmod t257 (wrap64 ((t230.length : Int) - 1))))) : Int).toNat)).bind fun t264 => ((impl_RunTime.f kj6 t227 t228 t229 (t230.drop ((wrap64 (1 + (Int.tmod t257 (wrap64 ((t230.length : Int) - 1))))) : Int).toNat)).bind fun t269 => (some (t259 == (wrap64 (t264 + t269)))))) else (none)) else (none))) else (some false)) = some true := H
             have A65 := Aside0.mk A650
             clear A650
             by_cases c66 : t258 ≥ t234
             ·rw [if_pos c66] at H
              have c66b0 : decide (t234 ≤ t258) = true := decide_eq_true c66
              clear c66
              replace H := Option.bind_eq_some_iff.mp H
              obtain ⟨t259, A670, H⟩ := H
              replace H : (if 0 ≤ (wrap64 (1 + (Int.tmod t257 (wrap64 ((t230.length : Int) - 1))))) then (if (wrap64 (1 + (Int.tmod t257 (wrap64 ((t230.length : Int) - 1))))) ≤ (t230.length : Int) then ((impl_RunTime.f kj6 t227 t228 t229 (t230.take ((wrap64 (1 + (Int.tmod t257 (wrap64 ((t230.length : Int) - 1))))) : Int).toNat)).bind fun t264 => ((impl_RunTime.f kj6 t227 t228 t229 (t230.drop ((wrap64 (1 + (Int.tmod t257 (wrap64 ((t230.length : Int) - 1))))) : Int).toNat)).bind fun t269 => (some (t259 == (wrap64 (t264 + t269)))))) else (none)) else (none)) = some true := H
              have A67 := Aside0.mk A670
              clear A670
              obtain ⟨ji68, hji68⟩ : ∃ j_ : Int, (wrap64 (1 + (Int.tmod t257 (wrap64 ((t230.length : Int) - 1))))) = j_ := ⟨_, rfl⟩
              replace H : (if 0 ≤ (ji68) then (if (ji68) ≤ (t230.length : Int) then ((impl_RunTime.f kj6 t227 t228 t229 (t230.take ((ji68) : Int).toNat)).bind fun t264 => ((impl_RunTime.f kj6 t227 t228 t229 (t230.drop ((ji68) : Int).toNat)).bind fun t269 => (some (t259 == (wrap64 (t264 + t269)))))) else (none)) else (none)) = some true := by first | (rw [hji68] at H; exact H) | (simp only [hji68] at H ⊢; exact H)
              (try rw [hji68] at A25)
              (try rw [hji68] at A26)
              (try rw [hji68] at A27)
              (try rw [hji68] at A28)
              (try rw [hji68] at A31)
              (try rw [hji68] at A36)
              (try rw [hji68] at A38)
              (try rw [hji68] at A63)
              (try rw [hji68] at A65)
              (try rw [hji68] at A67)
              have hji68w : (IntKind.i64.wrap (1 + (Int.tmod t257 (wrap64 ((t230.length : Int) - 1))))) = ji68 := (i64_w _).trans hji68
              by_cases c69 : 0 ≤ (ji68)
              ·rw [if_pos c69] at H
               have c69b0 := eq_true c69
               have c69b1 : decide (0 ≤ (ji68)) = true := decide_eq_true c69
               clear c69
               by_cases c70 : (ji68) ≤ (t230.length : Int)
               ·rw [if_pos c70] at H
                have c70b0 := eq_true c70
                have c70b1 : decide ((ji68) ≤ (t230.length : Int)) = true := decide_eq_true c70
                clear c70
                obtain ⟨y260, hy260⟩ : ∃ y_ : List Int, y_ = (t230.take ((ji68) : Int).toNat) := ⟨_, rfl⟩
                replace H : ((impl_RunTime.f kj6 t227 t228 t229 y260).bind fun t264 => ((impl_RunTime.f kj6 t227 t228 t229 (t230.drop ((ji68) : Int).toNat)).bind fun t269 => (some (t259 == (wrap64 (t264 + t269)))))) = some true := by first | (rw [hy260]; with_reducible exact H) | (have H2_ := (Option.bind_some _ _).symm.trans H; rw [hy260]; with_reducible exact H2_) | (have H2_ := (Option.bind_some _ _).symm.trans H; with_reducible exact H2_) | with_reducible exact H | (rw [hy260]; exact H) | exact H
                have Ny260 := Aside0.mk hy260
                clear hy260
                replace H := Option.bind_eq_some_iff.mp H
                obtain ⟨t264, A710, H⟩ := H
                replace H : ((impl_RunTime.f kj6 t227 t228 t229 (t230.drop ((ji68) : Int).toNat)).bind fun t269 => (some (t259 == (wrap64 (t264 + t269))))) = some true := H
                have A71 := Aside0.mk A710
                clear A710
                have c72b0 := eq_true (of_decide_eq_true (by first | (with_reducible assumption) | assumption) : 0 ≤ (ji68))
                have c73b0 := eq_true (of_decide_eq_true (by first | (with_reducible assumption) | assumption) : (ji68) ≤ (t230.length : Int))
                obtain ⟨y265, hy265⟩ : ∃ y_ : List Int, y_ = (t230.drop ((ji68) : Int).toNat) := ⟨_, rfl⟩
                replace H : ((impl_RunTime.f kj6 t227 t228 t229 y265).bind fun t269 => (some (t259 == (wrap64 (t264 + t269))))) = some true := by first | (rw [hy265]; with_reducible exact H) | (have H2_ := (Option.bind_some _ _).symm.trans H; rw [hy265]; with_reducible exact H2_) | (have H2_ := (Option.bind_some _ _).symm.trans H; with_reducible exact H2_) | with_reducible exact H | (rw [hy265]; exact H) | exact H
                have Ny265 := Aside0.mk hy265
                clear hy265
                replace H := Option.bind_eq_some_iff.mp H
                obtain ⟨t269, A740, H⟩ := H
                replace H : (some (t259 == (wrap64 (t264 + t269)))) = some true := H
                have A74 := Aside0.mk A740
                clear A740
                have HRT : ((t259 == (wrap64 (t264 + t269)))) = true := Option.some.inj H
                try go_wp2
                have n0_ := Aside0.mk (Kd.R_drew HO_4.out)
                have n1_ := Aside0.mk (blk_drew BK233.out)
                have n2_ := Aside0.mk (below_drew1 HB.out)
                clear HO_4
                clear BK233
                clear HB
                have HO_4 := n0_
                have BK233 := n1_
                have HB := n2_
                clear n0_ n1_ n2_
                refine start_ (n := 21) (S := fun w' => w'.cell? ⟨gb233, 0, none⟩ = some (.int .i64 t227) ∧ w'.cell? ⟨gb233, 1, none⟩ = some (.int .i64 t228) ∧ w'.cell? ⟨gb233, 2, none⟩ = some (.int .i64 t229)) (ds := []) #[false, false, false, false, false, false, false, false, false, false, false, false, false, false, false, false, false, false, false, false, false] (by kernel_rfl) rfl rfl ⟨(blk_cell BK233.out 0).trans rfl, (blk_cell BK233.out 1).trans rfl, (blk_cell BK233.out 2).trans rfl⟩ (fun hHeld => ?_); refine with_tabW laws_FnFaster.tab8 laws_FnFaster.bits8 (fun HT_ HW_ => ?_)
                generalize wc.drew = w75 at HO_4 BK233 HB hHeld ⊢
                refine pure_ (i := 0) (N := some 49) (v := ?_) (a' := ?_) #[true, false, false, false, false, false, false, false, false, false, false, false, false, false, false, false, false, false, false, false, false] rfl rfl (any_of HT_.out (by kernel_rfl)) (fun _ _ _ h => h) (Or.inl ⟨by rfl, ?_⟩) ?_ ?_
                rotate_left
                ·intro w'
                 go_simp
                 with_reducible rfl
                rotate_left
                ·simp only [Act.put, List.setIfInBounds_toArray, List.set_cons_zero, List.set_cons_succ, i64_w, i32_w]
                 rfl
                refine pure_ (i := 2) (N := some 51) (v := ?_) (a' := ?_) #[true, false, true, false, false, false, false, false, false, false, false, false, false, false, false, false, false, false, false, false, false] rfl rfl (any_of HT_.out (by kernel_rfl)) (fun _ _ _ h => h) (Or.inl ⟨by rfl, ?_⟩) ?_ ?_
                rotate_left
                ·intro w'
                 go_simp
                 with_reducible rfl
                rotate_left
                ·simp only [Act.put, List.setIfInBounds_toArray, List.set_cons_zero, List.set_cons_succ, i64_w, i32_w]
                 rfl
                refine pure_ (i := 6) (N := some 55) (v := ?_) (a' := ?_) #[true, false, true, false, false, false, true, false, false, false, false, false, false, false, false, false, false, false, false, false, false] rfl rfl (any_of HT_.out (by kernel_rfl)) (fun _ _ _ h => h) (Or.inl ⟨by rfl, ?_⟩) ?_ ?_
                rotate_left
                ·intro w'
                 go_simp
                 with_reducible rfl
                rotate_left
                ·simp only [Act.put, List.setIfInBounds_toArray, List.set_cons_zero, List.set_cons_succ, i64_w, i32_w]
                 rfl
                refine pure_ (i := 8) (N := some 57) (v := ?_) (a' := ?_) #[true, false, true, false, false, false, true, false, true, false, false, false, false, false, false, false, false, false, false, false, false] rfl rfl (any_of HT_.out (by kernel_rfl)) (fun _ _ _ h => h) (Or.inl ⟨by rfl, ?_⟩) ?_ ?_
                rotate_left
                ·intro w'
                 go_simp
                 with_reducible rfl
                rotate_left
                ·simp only [Act.put, List.setIfInBounds_toArray, List.set_cons_zero, List.set_cons_succ, i64_w, i32_w]
                 rfl
                refine pure_ (i := 12) (N := some 61) (v := ?_) (a' := ?_) #[true, false, true, false, false, false, true, false, true, false, false, false, true, false, false, false, false, false, false, false, false] rfl rfl (any_of HT_.out (by kernel_rfl)) (fun _ _ _ h => h) (Or.inl ⟨by rfl, ?_⟩) ?_ ?_
                rotate_left
                ·intro w'
                 go_simp
                 with_reducible rfl
                rotate_left
                ·simp only [Act.put, List.setIfInBounds_toArray, List.set_cons_zero, List.set_cons_succ, i64_w, i32_w]
                 rfl
                refine pure_ (i := 14) (N := some 63) (v := ?_) (a' := ?_) #[true, false, true, false, false, false, true, false, true, false, false, false, true, false, true, false, false, false, false, false, false] rfl rfl (any_of HT_.out (by kernel_rfl)) (fun _ _ _ h => h) (Or.inl ⟨by rfl, ?_⟩) ?_ ?_
                rotate_left
                ·intro w'
                 go_simp
                 with_reducible rfl
                rotate_left
                ·simp only [Act.put, List.setIfInBounds_toArray, List.set_cons_zero, List.set_cons_succ, i64_w, i32_w]
                 rfl
                refine take_ (i := 1) (N := some 50) (v := ?_) (a' := ?_) #[true, true, true, false, false, false, true, false, true, false, false, false, true, false, true, false, false, false, false, false, false] rfl rfl (take_ofW HT_.out HW_.out (by kernel_rfl)) (fun _ _ _ h => h) (Or.inl ⟨by rfl, ?_⟩) hHeld ?_ ?_
                rotate_left
                ·rintro w' ⟨s0, s1, s2⟩
                 go_simp
                 with_reducible rfl
                rotate_left
                ·simp only [Act.put, List.setIfInBounds_toArray, List.set_cons_zero, List.set_cons_succ, i64_w, i32_w]
                 rfl
                refine take_ (i := 7) (N := some 56) (v := ?_) (a' := ?_) #[true, true, true, false, false, false, true, true, true, false, false, false, true, false, true, false, false, false, false, false, false] rfl rfl (take_ofW HT_.out HW_.out (by kernel_rfl)) (fun _ _ _ h => h) (Or.inl ⟨by rfl, ?_⟩) hHeld ?_ ?_
                rotate_left
                ·rintro w' ⟨s0, s1, s2⟩
                 go_simp
                 with_reducible rfl
                rotate_left
                ·simp only [Act.put, List.setIfInBounds_toArray, List.set_cons_zero, List.set_cons_succ, i64_w, i32_w]
                 rfl
                refine take_ (i := 13) (N := some 62) (v := ?_) (a' := ?_) #[true, true, true, false, false, false, true, true, true, false, false, false, true, true, true, false, false, false, false, false, false] rfl rfl (take_ofW HT_.out HW_.out (by kernel_rfl)) (fun _ _ _ h => h) (Or.inl ⟨by rfl, ?_⟩) hHeld ?_ ?_
                rotate_left
                ·rintro w' ⟨s0, s1, s2⟩
                 go_simp
                 with_reducible rfl
                rotate_left
                ·simp only [Act.put, List.setIfInBounds_toArray, List.set_cons_zero, List.set_cons_succ, i64_w, i32_w]
                 rfl
                refine join_ (σ := Nat) 1 #[true, true, true, true, true, true, true, true, true, true, true, true, true, true, true, true, true, true, true, true, false] (fun s_ => [(52, .int .i64 t240), (58, .int .i64 t241), (64, .int .i64 t242), (7, .pointer (some ⟨s_, 0, none⟩)), (53, .int .i64 (Int.tmod t240 20)), (54, .int .i64 (wrap64 (t227 + (Int.tmod t240 20)))), (59, .int .i64 (Int.tmod t241 20)), (60, .int .i64 (wrap64 (t228 + (Int.tmod t241 20)))), (65, .int .i64 (Int.tmod t242 20)), (66, .int .i64 (wrap64 (t229 + (Int.tmod t242 20)))), (67, .agg #[.int .i64 (wrap64 (t227 + (Int.tmod t240 20))), .int .i64 (wrap64 (t228 + (Int.tmod t241 20))), .int .i64 (wrap64 (t229 + (Int.tmod t242 20)))])]) (fun s_ w' => (w'.cell? ⟨gb233, 0, none⟩ = some (.int .i64 t227) ∧ w'.cell? ⟨gb233, 1, none⟩ = some (.int .i64 t228) ∧ w'.cell? ⟨gb233, 2, none⟩ = some (.int .i64 t229)) ∧ (Kd.R (Kd.int .i64) 3 w' w.heap.size (fun _ => True) (.slice Ao11 t230.length co11) t230) ∧ (w'.heap[gb233]? = some (.cells #[.int .i64 t227, .int .i64 t228, .int .i64 t229] 25 (0, 0))) ∧ (w'.heap[s_]? = some (.cells #[.int .i64 0, .int .i64 0, .int .i64 0] 25 (0, 0))) ∧ (w.heap.size ≤ s_) ∧ (w.heap.size ≤ s_) ∧ (gb233 ≠ s_) ∧ (s_ ≠ gb233) ∧ (Below w.heap.size w w')) ?_ ?_
                rotate_left
                ·intro hCont
                 refine two_ (i := 3) (j := 19) (Ni := some 52) (Nj := some 7) #[true, true, true, true, false, false, true, true, true, false, false, false, true, true, true, false, false, false, false, false, false] #[true, true, true, false, false, false, true, true, true, false, false, false, true, true, true, false, false, false, false, true, false] rfl rfl rfl rfl (two_of HT_.out (by kernel_rfl)) (by decide) (by decide) (fun K hK => ?_) (fun K hK => ?_)
                 ·skip
                  refine goes_ Try.func10 (by kernel_rfl) rfl #[.slice A0 l0.length c0, .int .i64 2] (by rfl) rfl rfl (by (try simp only [List.map_toArray, List.map_cons, List.map_nil]); first | done | rfl | (simp only [List.length_drop, List.length_take]; rfl)) ?_
                  with_reducible refine (laws_at.calls _ _ l0 2 t240 _ ?side1 ?side2 A25.out).mono ?_
                  (case side1 => repeat (first | exact (Kd.C_below HR0.out HB.out) | (with_reducible refine Kd.C_alloc ?_ _) | (with_reducible refine Kd.C_drewN ?_ _) | (with_reducible refine Kd.C_drew ?_)))
                  (case side2 => exact HC0.out)
                  rintro e w' ⟨rfl, ⟨nd, rfl⟩⟩
                  refine ⟨_, rfl, ?_⟩
                  refine hK.out _ _ ⟨(blk_cell BK233.out 0).trans rfl, (blk_cell BK233.out 1).trans rfl, (blk_cell BK233.out 2).trans rfl⟩ (fun hHeld => ?_)
                  clear hK K
                  refine norm_ (a' := ?_) ?_ ?_
                  rotate_left
                  ·show Act.put _ (some 52) _ = _
                   simp only [Act.put, List.setIfInBounds_toArray, List.set_cons_zero, List.set_cons_succ, i64_w, i32_w]
                   rfl
                  refine pure_ (i := 4) (N := some 53) (v := ?_) (a' := ?_) #[true, true, true, true, true, false, true, true, true, false, false, false, true, true, true, false, false, false, false, false, false] rfl rfl (any_of HT_.out (by kernel_rfl)) (fun _ _ _ h => h) (Or.inl ⟨by rfl, ?_⟩) ?_ ?_
                  rotate_left
                  ·intro w'
                   go_simp
                   with_reducible rfl
                  rotate_left
                  ·simp only [Act.put, List.setIfInBounds_toArray, List.set_cons_zero, List.set_cons_succ, i64_w, i32_w]
                   rfl
                  refine pure_ (i := 5) (N := some 54) (v := ?_) (a' := ?_) #[true, true, true, true, true, true, true, true, true, false, false, false, true, true, true, false, false, false, false, false, false] rfl rfl (any_of HT_.out (by kernel_rfl)) (fun _ _ _ h => h) (Or.inl ⟨by rfl, ?_⟩) ?_ ?_
                  rotate_left
                  ·intro w'
                   go_simp
                   with_reducible rfl
                  rotate_left
                  ·simp only [Act.put, List.setIfInBounds_toArray, List.set_cons_zero, List.set_cons_succ, i64_w, i32_w]
                   rfl
                  refine two_ (i := 9) (j := 19) (Ni := some 58) (Nj := some 7) #[true, true, true, true, true, true, true, true, true, true, false, false, true, true, true, false, false, false, false, false, false] #[true, true, true, true, true, true, true, true, true, false, false, false, true, true, true, false, false, false, false, true, false] rfl rfl rfl rfl (two_of HT_.out (by kernel_rfl)) (by decide) (by decide) (fun K hK => ?_) (fun K hK => ?_)
                  ·skip
                   refine goes_ Try.func10 (by kernel_rfl) rfl #[.slice A0 l0.length c0, .int .i64 3] (by rfl) rfl rfl (by (try simp only [List.map_toArray, List.map_cons, List.map_nil]); first | done | rfl | (simp only [List.length_drop, List.length_take]; rfl)) ?_
                   with_reducible refine (laws_at.calls _ _ l0 3 t241 _ ?side1 ?side2 A26.out).mono ?_
                   (case side1 => repeat (first | exact (Kd.C_below HR0.out (by repeat (first | (with_reducible first | exact HB.out | apply below_alloc | apply pw_below_drewN | apply below_drew1 | refine below_set ?_ GE233.out) | exact HB.out))) | (with_reducible refine Kd.C_alloc ?_ _) | (with_reducible refine Kd.C_drewN ?_ _) | (with_reducible refine Kd.C_drew ?_)))
                   (case side2 => exact HC0.out)
                   rintro e w' ⟨rfl, ⟨nd, rfl⟩⟩
                   refine ⟨_, rfl, ?_⟩
                   refine hK.out _ _ ⟨(blk_cell BK233.out 0).trans rfl, (blk_cell BK233.out 1).trans rfl, (blk_cell BK233.out 2).trans rfl⟩ (fun hHeld => ?_)
                   clear hK K
                   refine norm_ (a' := ?_) ?_ ?_
                   rotate_left
                   ·show Act.put _ (some 58) _ = _
                    simp only [Act.put, List.setIfInBounds_toArray, List.set_cons_zero, List.set_cons_succ, i64_w, i32_w]
                    rfl
                   refine pure_ (i := 10) (N := some 59) (v := ?_) (a' := ?_) #[true, true, true, true, true, true, true, true, true, true, true, false, true, true, true, false, false, false, false, false, false] rfl rfl (any_of HT_.out (by kernel_rfl)) (fun _ _ _ h => h) (Or.inl ⟨by rfl, ?_⟩) ?_ ?_
                   rotate_left
                   ·intro w'
                    go_simp
                    with_reducible rfl
                   rotate_left
                   ·simp only [Act.put, List.setIfInBounds_toArray, List.set_cons_zero, List.set_cons_succ, i64_w, i32_w]
                    rfl
                   refine pure_ (i := 11) (N := some 60) (v := ?_) (a' := ?_) #[true, true, true, true, true, true, true, true, true, true, true, true, true, true, true, false, false, false, false, false, false] rfl rfl (any_of HT_.out (by kernel_rfl)) (fun _ _ _ h => h) (Or.inl ⟨by rfl, ?_⟩) ?_ ?_
                   rotate_left
                   ·intro w'
                    go_simp
                    with_reducible rfl
                   rotate_left
                   ·simp only [Act.put, List.setIfInBounds_toArray, List.set_cons_zero, List.set_cons_succ, i64_w, i32_w]
                    rfl
                   refine two_ (i := 15) (j := 19) (Ni := some 64) (Nj := some 7) #[true, true, true, true, true, true, true, true, true, true, true, true, true, true, true, true, false, false, false, false, false] #[true, true, true, true, true, true, true, true, true, true, true, true, true, true, true, false, false, false, false, true, false] rfl rfl rfl rfl (two_of HT_.out (by kernel_rfl)) (by decide) (by decide) (fun K hK => ?_) (fun K hK => ?_)
                   ·skip
                    refine goes_ Try.func10 (by kernel_rfl) rfl #[.slice A0 l0.length c0, .int .i64 4] (by rfl) rfl rfl (by (try simp only [List.map_toArray, List.map_cons, List.map_nil]); first | done | rfl | (simp only [List.length_drop, List.length_take]; rfl)) ?_
                    with_reducible refine (laws_at.calls _ _ l0 4 t242 _ ?side1 ?side2 A27.out).mono ?_
                    (case side1 => repeat (first | exact (Kd.C_below HR0.out (by repeat (first | (with_reducible first | exact HB.out | apply below_alloc | apply pw_below_drewN | apply below_drew1 | refine below_set ?_ GE233.out) | exact HB.out))) | (with_reducible refine Kd.C_alloc ?_ _) | (with_reducible refine Kd.C_drewN ?_ _) | (with_reducible refine Kd.C_drew ?_)))
                    (case side2 => exact HC0.out)
                    rintro e w' ⟨rfl, ⟨nd, rfl⟩⟩
                    refine ⟨_, rfl, ?_⟩
                    refine hK.out _ _ ⟨(blk_cell BK233.out 0).trans rfl, (blk_cell BK233.out 1).trans rfl, (blk_cell BK233.out 2).trans rfl⟩ (fun hHeld => ?_)
                    clear hK K
                    refine norm_ (a' := ?_) ?_ ?_
                    rotate_left
                    ·show Act.put _ (some 64) _ = _
                     simp only [Act.put, List.setIfInBounds_toArray, List.set_cons_zero, List.set_cons_succ, i64_w, i32_w]
                     rfl
                    refine pure_ (i := 16) (N := some 65) (v := ?_) (a' := ?_) #[true, true, true, true, true, true, true, true, true, true, true, true, true, true, true, true, true, false, false, false, false] rfl rfl (any_of HT_.out (by kernel_rfl)) (fun _ _ _ h => h) (Or.inl ⟨by rfl, ?_⟩) ?_ ?_
                    rotate_left
                    ·intro w'
                     go_simp
                     with_reducible rfl
                    rotate_left
                    ·simp only [Act.put, List.setIfInBounds_toArray, List.set_cons_zero, List.set_cons_succ, i64_w, i32_w]
                     rfl
                    refine pure_ (i := 17) (N := some 66) (v := ?_) (a' := ?_) #[true, true, true, true, true, true, true, true, true, true, true, true, true, true, true, true, true, true, false, false, false] rfl rfl (any_of HT_.out (by kernel_rfl)) (fun _ _ _ h => h) (Or.inl ⟨by rfl, ?_⟩) ?_ ?_
                    rotate_left
                    ·intro w'
                     go_simp
                     with_reducible rfl
                    rotate_left
                    ·simp only [Act.put, List.setIfInBounds_toArray, List.set_cons_zero, List.set_cons_succ, i64_w, i32_w]
                     rfl
                    refine pure_ (i := 18) (N := some 67) (v := ?_) (a' := ?_) #[true, true, true, true, true, true, true, true, true, true, true, true, true, true, true, true, true, true, true, false, false] rfl rfl (any_of HT_.out (by kernel_rfl)) (fun _ _ _ h => h) (Or.inl ⟨by rfl, ?_⟩) ?_ ?_
                    rotate_left
                    ·intro w'
                     go_simp
                     with_reducible rfl
                    rotate_left
                    ·simp only [Act.put, List.setIfInBounds_toArray, List.set_cons_zero, List.set_cons_succ, i64_w, i32_w]
                     rfl
                    refine one_ (i := 19) (N := some 7) #[true, true, true, true, true, true, true, true, true, true, true, true, true, true, true, true, true, true, true, true, false] rfl rfl (one_of HT_.out (by kernel_rfl)) (by decide) (fun K hK => ?_)
                    refine box_step ?hg (N := 7) ?hd (cs := #[.int .i64 0, .int .i64 0, .int .i64 0]) (t := 25) ?hr ?_; (case hd => rfl); (case hg => rfl); (case hr => first | (go_simp; done) | (go_simp; rfl))
                    intro gb243 hg w76 hbox hb
                    have n0_ := Aside0.mk (Kd.R_below (by (with_reducible repeat (first | apply Kd.R_alloc | apply Kd.R_drewN | apply Kd.R_drew)); exact HO_4.out) hb)
                    have n1_ := Aside0.mk (blk_below (g := gb233) (o := .cells #[.int .i64 t227, .int .i64 t228, .int .i64 t229] 25 (0, 0)) (by (with_reducible repeat (first | refine blk_drewN ?_ _ | refine blk_drew ?_ | refine blk_alloc ?_ _)); exact BK233.out) hb)
                    have n2_ := Aside0.mk (below_step (by repeat (first | (with_reducible first | exact HB.out | apply below_alloc | apply pw_below_drewN | apply below_drew1 | refine below_set ?_ GE233.out) | exact HB.out)) hb)
                    have n3_ := Aside0.mk (hbox)
                    have n4_ := Aside0.mk ((by rw [hg]; exact (below_size (by repeat (first | (with_reducible first | exact HB.out | apply below_alloc | apply pw_below_drewN | apply below_drew1 | refine below_set ?_ GE233.out) | exact HB.out))) : w.heap.size ≤ gb243))
                    have n5_ := Aside0.mk ((by rw [hg]; exact (below_size (by repeat (first | (with_reducible first | exact HB.out | apply below_alloc | apply pw_below_drewN | apply below_drew1 | refine below_set ?_ GE233.out) | exact HB.out))) : w.heap.size ≤ gb243))
                    have n6_ := Aside0.mk ((by rw [hg]; exact Nat.ne_of_lt (blk_lt (g := gb233) (o := .cells #[.int .i64 t227, .int .i64 t228, .int .i64 t229] 25 (0, 0)) (by (with_reducible repeat (first | refine blk_drewN ?_ _ | refine blk_drew ?_ | refine blk_alloc ?_ _)); exact BK233.out)) : gb233 ≠ gb243))
                    have n7_ := Aside0.mk ((by rw [hg]; exact Nat.ne_of_gt (blk_lt (g := gb233) (o := .cells #[.int .i64 t227, .int .i64 t228, .int .i64 t229] 25 (0, 0)) (by (with_reducible repeat (first | refine blk_drewN ?_ _ | refine blk_drew ?_ | refine blk_alloc ?_ _)); exact BK233.out)) : gb243 ≠ gb233))
                    clear HO_4
                    clear BK233
                    clear HB
                    have HO_4 := n0_
                    have BK233 := n1_
                    have HB := n2_
                    have BK243 := n3_
                    have GW243 := n4_
                    have GE243 := n5_
                    have NB233_243 := n6_
                    have NB243_233 := n7_
                    clear n0_ n1_ n2_ n3_ n4_ n5_ n6_ n7_
                    clear hb hbox hg
                    refine hK.out _ _ ⟨(blk_cell BK233.out 0).trans rfl, (blk_cell BK233.out 1).trans rfl, (blk_cell BK233.out 2).trans rfl⟩ (fun hHeld => ?_)
                    clear hK K
                    refine norm_ (a' := ?_) ?_ ?_
                    rotate_left
                    ·show Act.put _ (some 7) _ = _
                     simp only [Act.put, List.setIfInBounds_toArray, List.set_cons_zero, List.set_cons_succ, i64_w, i32_w]
                     rfl
                    exact norm_ (by simp only [putAll, Act.put, List.setIfInBounds_toArray, List.set_cons_zero, List.set_cons_succ]) (hCont (gb243) _ ⟨hHeld, (by (with_reducible repeat (first | apply Kd.R_alloc | apply Kd.R_drewN | apply Kd.R_drew)); exact HO_4.out), (by (with_reducible repeat (first | refine blk_drewN ?_ _ | refine blk_drew ?_ | refine blk_alloc ?_ _)); exact BK233.out), (by (with_reducible repeat (first | refine blk_drewN ?_ _ | refine blk_drew ?_ | refine blk_alloc ?_ _)); exact BK243.out), GW243.out, GE243.out, NB233_243.out, NB243_233.out, (by repeat (first | (with_reducible first | exact HB.out | apply below_alloc | apply pw_below_drewN | apply below_drew1 | refine below_set ?_ GE233.out | refine below_set ?_ GE243.out) | exact HB.out))⟩)
                   ·skip
                    refine box_step ?hg (N := 7) ?hd (cs := #[.int .i64 0, .int .i64 0, .int .i64 0]) (t := 25) ?hr ?_; (case hd => rfl); (case hg => rfl); (case hr => first | (go_simp; done) | (go_simp; rfl))
                    intro gb243 hg w76 hbox hb
                    have n0_ := Aside0.mk (Kd.R_below (by (with_reducible repeat (first | apply Kd.R_alloc | apply Kd.R_drewN | apply Kd.R_drew)); exact HO_4.out) hb)
                    have n1_ := Aside0.mk (blk_below (g := gb233) (o := .cells #[.int .i64 t227, .int .i64 t228, .int .i64 t229] 25 (0, 0)) (by (with_reducible repeat (first | refine blk_drewN ?_ _ | refine blk_drew ?_ | refine blk_alloc ?_ _)); exact BK233.out) hb)
                    have n2_ := Aside0.mk (below_step (by repeat (first | (with_reducible first | exact HB.out | apply below_alloc | apply pw_below_drewN | apply below_drew1 | refine below_set ?_ GE233.out) | exact HB.out)) hb)
                    have n3_ := Aside0.mk (hbox)
                    have n4_ := Aside0.mk ((by rw [hg]; exact (below_size (by repeat (first | (with_reducible first | exact HB.out | apply below_alloc | apply pw_below_drewN | apply below_drew1 | refine below_set ?_ GE233.out) | exact HB.out))) : w.heap.size ≤ gb243))
                    have n5_ := Aside0.mk ((by rw [hg]; exact (below_size (by repeat (first | (with_reducible first | exact HB.out | apply below_alloc | apply pw_below_drewN | apply below_drew1 | refine below_set ?_ GE233.out) | exact HB.out))) : w.heap.size ≤ gb243))
                    have n6_ := Aside0.mk ((by rw [hg]; exact Nat.ne_of_lt (blk_lt (g := gb233) (o := .cells #[.int .i64 t227, .int .i64 t228, .int .i64 t229] 25 (0, 0)) (by (with_reducible repeat (first | refine blk_drewN ?_ _ | refine blk_drew ?_ | refine blk_alloc ?_ _)); exact BK233.out)) : gb233 ≠ gb243))
                    have n7_ := Aside0.mk ((by rw [hg]; exact Nat.ne_of_gt (blk_lt (g := gb233) (o := .cells #[.int .i64 t227, .int .i64 t228, .int .i64 t229] 25 (0, 0)) (by (with_reducible repeat (first | refine blk_drewN ?_ _ | refine blk_drew ?_ | refine blk_alloc ?_ _)); exact BK233.out)) : gb243 ≠ gb233))
                    clear HO_4
                    clear BK233
                    clear HB
                    have HO_4 := n0_
                    have BK233 := n1_
                    have HB := n2_
                    have BK243 := n3_
                    have GW243 := n4_
                    have GE243 := n5_
                    have NB233_243 := n6_
                    have NB243_233 := n7_
                    clear n0_ n1_ n2_ n3_ n4_ n5_ n6_ n7_
                    clear hb hbox hg
                    refine hK.out _ _ ⟨(blk_cell BK233.out 0).trans rfl, (blk_cell BK233.out 1).trans rfl, (blk_cell BK233.out 2).trans rfl⟩ (fun hHeld => ?_)
                    clear hK K
                    refine norm_ (a' := ?_) ?_ ?_
                    rotate_left
                    ·show Act.put _ (some 7) _ = _
                     simp only [Act.put, List.setIfInBounds_toArray, List.set_cons_zero, List.set_cons_succ, i64_w, i32_w]
                     rfl
                    refine one_ (i := 15) (N := some 64) #[true, true, true, true, true, true, true, true, true, true, true, true, true, true, true, true, false, false, false, true, false] rfl rfl (one_of HT_.out (by kernel_rfl)) (by decide) (fun K hK => ?_)
                    refine goes_ Try.func10 (by kernel_rfl) rfl #[.slice A0 l0.length c0, .int .i64 4] (by rfl) rfl rfl (by (try simp only [List.map_toArray, List.map_cons, List.map_nil]); first | done | rfl | (simp only [List.length_drop, List.length_take]; rfl)) ?_
                    with_reducible refine (laws_at.calls _ _ l0 4 t242 _ ?side1 ?side2 A27.out).mono ?_
                    (case side1 => repeat (first | exact (Kd.C_below HR0.out HB.out) | (with_reducible refine Kd.C_alloc ?_ _) | (with_reducible refine Kd.C_drewN ?_ _) | (with_reducible refine Kd.C_drew ?_)))
                    (case side2 => exact HC0.out)
                    rintro e w' ⟨rfl, ⟨nd, rfl⟩⟩
                    refine ⟨_, rfl, ?_⟩
                    refine hK.out _ _ ⟨(blk_cell BK233.out 0).trans rfl, (blk_cell BK233.out 1).trans rfl, (blk_cell BK233.out 2).trans rfl⟩ (fun hHeld => ?_)
                    clear hK K
                    refine norm_ (a' := ?_) ?_ ?_
                    rotate_left
                    ·show Act.put _ (some 64) _ = _
                     simp only [Act.put, List.setIfInBounds_toArray, List.set_cons_zero, List.set_cons_succ, i64_w, i32_w]
                     rfl
                    refine pure_ (i := 16) (N := some 65) (v := ?_) (a' := ?_) #[true, true, true, true, true, true, true, true, true, true, true, true, true, true, true, true, true, false, false, true, false] rfl rfl (any_of HT_.out (by kernel_rfl)) (fun _ _ _ h => h) (Or.inl ⟨by rfl, ?_⟩) ?_ ?_
                    rotate_left
                    ·intro w'
                     go_simp
                     with_reducible rfl
                    rotate_left
                    ·simp only [Act.put, List.setIfInBounds_toArray, List.set_cons_zero, List.set_cons_succ, i64_w, i32_w]
                     rfl
                    refine pure_ (i := 17) (N := some 66) (v := ?_) (a' := ?_) #[true, true, true, true, true, true, true, true, true, true, true, true, true, true, true, true, true, true, false, true, false] rfl rfl (any_of HT_.out (by kernel_rfl)) (fun _ _ _ h => h) (Or.inl ⟨by rfl, ?_⟩) ?_ ?_
                    rotate_left
                    ·intro w'
                     go_simp
                     with_reducible rfl
                    rotate_left
                    ·simp only [Act.put, List.setIfInBounds_toArray, List.set_cons_zero, List.set_cons_succ, i64_w, i32_w]
                     rfl
                    refine pure_ (i := 18) (N := some 67) (v := ?_) (a' := ?_) #[true, true, true, true, true, true, true, true, true, true, true, true, true, true, true, true, true, true, true, true, false] rfl rfl (any_of HT_.out (by kernel_rfl)) (fun _ _ _ h => h) (Or.inl ⟨by rfl, ?_⟩) ?_ ?_
                    rotate_left
                    ·intro w'
                     go_simp
                     with_reducible rfl
                    rotate_left
                    ·simp only [Act.put, List.setIfInBounds_toArray, List.set_cons_zero, List.set_cons_succ, i64_w, i32_w]
                     rfl
                    exact norm_ (by simp only [putAll, Act.put, List.setIfInBounds_toArray, List.set_cons_zero, List.set_cons_succ]) (hCont (gb243) _ ⟨hHeld, (by (with_reducible repeat (first | apply Kd.R_alloc | apply Kd.R_drewN | apply Kd.R_drew)); exact HO_4.out), (by (with_reducible repeat (first | refine blk_drewN ?_ _ | refine blk_drew ?_ | refine blk_alloc ?_ _)); exact BK233.out), (by (with_reducible repeat (first | refine blk_drewN ?_ _ | refine blk_drew ?_ | refine blk_alloc ?_ _)); exact BK243.out), GW243.out, GE243.out, NB233_243.out, NB243_233.out, (by repeat (first | (with_reducible first | exact HB.out | apply below_alloc | apply pw_below_drewN | apply below_drew1 | refine below_set ?_ GE233.out | refine below_set ?_ GE243.out) | exact HB.out))⟩)
                  ·skip
                   refine box_step ?hg (N := 7) ?hd (cs := #[.int .i64 0, .int .i64 0, .int .i64 0]) (t := 25) ?hr ?_; (case hd => rfl); (case hg => rfl); (case hr => first | (go_simp; done) | (go_simp; rfl))
                   intro gb243 hg w76 hbox hb
                   have n0_ := Aside0.mk (Kd.R_below (by (with_reducible repeat (first | apply Kd.R_alloc | apply Kd.R_drewN | apply Kd.R_drew)); exact HO_4.out) hb)
                   have n1_ := Aside0.mk (blk_below (g := gb233) (o := .cells #[.int .i64 t227, .int .i64 t228, .int .i64 t229] 25 (0, 0)) (by (with_reducible repeat (first | refine blk_drewN ?_ _ | refine blk_drew ?_ | refine blk_alloc ?_ _)); exact BK233.out) hb)
                   have n2_ := Aside0.mk (below_step (by repeat (first | (with_reducible first | exact HB.out | apply below_alloc | apply pw_below_drewN | apply below_drew1 | refine below_set ?_ GE233.out) | exact HB.out)) hb)
                   have n3_ := Aside0.mk (hbox)
                   have n4_ := Aside0.mk ((by rw [hg]; exact (below_size (by repeat (first | (with_reducible first | exact HB.out | apply below_alloc | apply pw_below_drewN | apply below_drew1 | refine below_set ?_ GE233.out) | exact HB.out))) : w.heap.size ≤ gb243))
                   have n5_ := Aside0.mk ((by rw [hg]; exact (below_size (by repeat (first | (with_reducible first | exact HB.out | apply below_alloc | apply pw_below_drewN | apply below_drew1 | refine below_set ?_ GE233.out) | exact HB.out))) : w.heap.size ≤ gb243))
                   have n6_ := Aside0.mk ((by rw [hg]; exact Nat.ne_of_lt (blk_lt (g := gb233) (o := .cells #[.int .i64 t227, .int .i64 t228, .int .i64 t229] 25 (0, 0)) (by (with_reducible repeat (first | refine blk_drewN ?_ _ | refine blk_drew ?_ | refine blk_alloc ?_ _)); exact BK233.out)) : gb233 ≠ gb243))
                   have n7_ := Aside0.mk ((by rw [hg]; exact Nat.ne_of_gt (blk_lt (g := gb233) (o := .cells #[.int .i64 t227, .int .i64 t228, .int .i64 t229] 25 (0, 0)) (by (with_reducible repeat (first | refine blk_drewN ?_ _ | refine blk_drew ?_ | refine blk_alloc ?_ _)); exact BK233.out)) : gb243 ≠ gb233))
                   clear HO_4
                   clear BK233
                   clear HB
                   have HO_4 := n0_
                   have BK233 := n1_
                   have HB := n2_
                   have BK243 := n3_
                   have GW243 := n4_
                   have GE243 := n5_
                   have NB233_243 := n6_
                   have NB243_233 := n7_
                   clear n0_ n1_ n2_ n3_ n4_ n5_ n6_ n7_
                   clear hb hbox hg
                   refine hK.out _ _ ⟨(blk_cell BK233.out 0).trans rfl, (blk_cell BK233.out 1).trans rfl, (blk_cell BK233.out 2).trans rfl⟩ (fun hHeld => ?_)
                   clear hK K
                   refine norm_ (a' := ?_) ?_ ?_
                   rotate_left
                   ·show Act.put _ (some 7) _ = _
                    simp only [Act.put, List.setIfInBounds_toArray, List.set_cons_zero, List.set_cons_succ, i64_w, i32_w]
                    rfl
                   refine one_ (i := 9) (N := some 58) #[true, true, true, true, true, true, true, true, true, true, false, false, true, true, true, false, false, false, false, true, false] rfl rfl (one_of HT_.out (by kernel_rfl)) (by decide) (fun K hK => ?_)
                   refine goes_ Try.func10 (by kernel_rfl) rfl #[.slice A0 l0.length c0, .int .i64 3] (by rfl) rfl rfl (by (try simp only [List.map_toArray, List.map_cons, List.map_nil]); first | done | rfl | (simp only [List.length_drop, List.length_take]; rfl)) ?_
                   with_reducible refine (laws_at.calls _ _ l0 3 t241 _ ?side1 ?side2 A26.out).mono ?_
                   (case side1 => repeat (first | exact (Kd.C_below HR0.out HB.out) | (with_reducible refine Kd.C_alloc ?_ _) | (with_reducible refine Kd.C_drewN ?_ _) | (with_reducible refine Kd.C_drew ?_)))
                   (case side2 => exact HC0.out)
                   rintro e w' ⟨rfl, ⟨nd, rfl⟩⟩
                   refine ⟨_, rfl, ?_⟩
                   refine hK.out _ _ ⟨(blk_cell BK233.out 0).trans rfl, (blk_cell BK233.out 1).trans rfl, (blk_cell BK233.out 2).trans rfl⟩ (fun hHeld => ?_)
                   clear hK K
                   refine norm_ (a' := ?_) ?_ ?_
                   rotate_left
                   ·show Act.put _ (some 58) _ = _
                    simp only [Act.put, List.setIfInBounds_toArray, List.set_cons_zero, List.set_cons_succ, i64_w, i32_w]
                    rfl
                   refine pure_ (i := 10) (N := some 59) (v := ?_) (a' := ?_) #[true, true, true, true, true, true, true, true, true, true, true, false, true, true, true, false, false, false, false, true, false] rfl rfl (any_of HT_.out (by kernel_rfl)) (fun _ _ _ h => h) (Or.inl ⟨by rfl, ?_⟩) ?_ ?_
                   rotate_left
                   ·intro w'
                    go_simp
                    with_reducible rfl
                   rotate_left
                   ·simp only [Act.put, List.setIfInBounds_toArray, List.set_cons_zero, List.set_cons_succ, i64_w, i32_w]
                    rfl
                   refine pure_ (i := 11) (N := some 60) (v := ?_) (a' := ?_) #[true, true, true, true, true, true, true, true, true, true, true, true, true, true, true, false, false, false, false, true, false] rfl rfl (any_of HT_.out (by kernel_rfl)) (fun _ _ _ h => h) (Or.inl ⟨by rfl, ?_⟩) ?_ ?_
                   rotate_left
                   ·intro w'
                    go_simp
                    with_reducible rfl
                   rotate_left
                   ·simp only [Act.put, List.setIfInBounds_toArray, List.set_cons_zero, List.set_cons_succ, i64_w, i32_w]
                    rfl
                   refine one_ (i := 15) (N := some 64) #[true, true, true, true, true, true, true, true, true, true, true, true, true, true, true, true, false, false, false, true, false] rfl rfl (one_of HT_.out (by kernel_rfl)) (by decide) (fun K hK => ?_)
                   refine goes_ Try.func10 (by kernel_rfl) rfl #[.slice A0 l0.length c0, .int .i64 4] (by rfl) rfl rfl (by (try simp only [List.map_toArray, List.map_cons, List.map_nil]); first | done | rfl | (simp only [List.length_drop, List.length_take]; rfl)) ?_
                   with_reducible refine (laws_at.calls _ _ l0 4 t242 _ ?side1 ?side2 A27.out).mono ?_
                   (case side1 => repeat (first | exact (Kd.C_below HR0.out (by repeat (first | (with_reducible first | exact HB.out | apply below_alloc | apply pw_below_drewN | apply below_drew1 | refine below_set ?_ GE233.out | refine below_set ?_ GE243.out) | exact HB.out))) | (with_reducible refine Kd.C_alloc ?_ _) | (with_reducible refine Kd.C_drewN ?_ _) | (with_reducible refine Kd.C_drew ?_)))
                   (case side2 => exact HC0.out)
                   rintro e w' ⟨rfl, ⟨nd, rfl⟩⟩
                   refine ⟨_, rfl, ?_⟩
                   refine hK.out _ _ ⟨(blk_cell BK233.out 0).trans rfl, (blk_cell BK233.out 1).trans rfl, (blk_cell BK233.out 2).trans rfl⟩ (fun hHeld => ?_)
                   clear hK K
                   refine norm_ (a' := ?_) ?_ ?_
                   rotate_left
                   ·show Act.put _ (some 64) _ = _
                    simp only [Act.put, List.setIfInBounds_toArray, List.set_cons_zero, List.set_cons_succ, i64_w, i32_w]
                    rfl
                   refine pure_ (i := 16) (N := some 65) (v := ?_) (a' := ?_) #[true, true, true, true, true, true, true, true, true, true, true, true, true, true, true, true, true, false, false, true, false] rfl rfl (any_of HT_.out (by kernel_rfl)) (fun _ _ _ h => h) (Or.inl ⟨by rfl, ?_⟩) ?_ ?_
                   rotate_left
                   ·intro w'
                    go_simp
                    with_reducible rfl
                   rotate_left
                   ·simp only [Act.put, List.setIfInBounds_toArray, List.set_cons_zero, List.set_cons_succ, i64_w, i32_w]
                    rfl
                   refine pure_ (i := 17) (N := some 66) (v := ?_) (a' := ?_) #[true, true, true, true, true, true, true, true, true, true, true, true, true, true, true, true, true, true, false, true, false] rfl rfl (any_of HT_.out (by kernel_rfl)) (fun _ _ _ h => h) (Or.inl ⟨by rfl, ?_⟩) ?_ ?_
                   rotate_left
                   ·intro w'
                    go_simp
                    with_reducible rfl
                   rotate_left
                   ·simp only [Act.put, List.setIfInBounds_toArray, List.set_cons_zero, List.set_cons_succ, i64_w, i32_w]
                    rfl
                   refine pure_ (i := 18) (N := some 67) (v := ?_) (a' := ?_) #[true, true, true, true, true, true, true, true, true, true, true, true, true, true, true, true, true, true, true, true, false] rfl rfl (any_of HT_.out (by kernel_rfl)) (fun _ _ _ h => h) (Or.inl ⟨by rfl, ?_⟩) ?_ ?_
                   rotate_left
                   ·intro w'
                    go_simp
                    with_reducible rfl
                   rotate_left
                   ·simp only [Act.put, List.setIfInBounds_toArray, List.set_cons_zero, List.set_cons_succ, i64_w, i32_w]
                    rfl
                   exact norm_ (by simp only [putAll, Act.put, List.setIfInBounds_toArray, List.set_cons_zero, List.set_cons_succ]) (hCont (gb243) _ ⟨hHeld, (by (with_reducible repeat (first | apply Kd.R_alloc | apply Kd.R_drewN | apply Kd.R_drew)); exact HO_4.out), (by (with_reducible repeat (first | refine blk_drewN ?_ _ | refine blk_drew ?_ | refine blk_alloc ?_ _)); exact BK233.out), (by (with_reducible repeat (first | refine blk_drewN ?_ _ | refine blk_drew ?_ | refine blk_alloc ?_ _)); exact BK243.out), GW243.out, GE243.out, NB233_243.out, NB243_233.out, (by repeat (first | (with_reducible first | exact HB.out | apply below_alloc | apply pw_below_drewN | apply below_drew1 | refine below_set ?_ GE233.out | refine below_set ?_ GE243.out) | exact HB.out))⟩)
                 ·skip
                  refine box_step ?hg (N := 7) ?hd (cs := #[.int .i64 0, .int .i64 0, .int .i64 0]) (t := 25) ?hr ?_; (case hd => rfl); (case hg => rfl); (case hr => first | (go_simp; done) | (go_simp; rfl))
                  intro gb243 hg w76 hbox hb
                  have n0_ := Aside0.mk (Kd.R_below (by (with_reducible repeat (first | apply Kd.R_alloc | apply Kd.R_drewN | apply Kd.R_drew)); exact HO_4.out) hb)
                  have n1_ := Aside0.mk (blk_below (g := gb233) (o := .cells #[.int .i64 t227, .int .i64 t228, .int .i64 t229] 25 (0, 0)) (by (with_reducible repeat (first | refine blk_drewN ?_ _ | refine blk_drew ?_ | refine blk_alloc ?_ _)); exact BK233.out) hb)
                  have n2_ := Aside0.mk (below_step (by repeat (first | (with_reducible first | exact HB.out | apply below_alloc | apply pw_below_drewN | apply below_drew1 | refine below_set ?_ GE233.out) | exact HB.out)) hb)
                  have n3_ := Aside0.mk (hbox)
                  have n4_ := Aside0.mk ((by rw [hg]; exact (below_size (by repeat (first | (with_reducible first | exact HB.out | apply below_alloc | apply pw_below_drewN | apply below_drew1 | refine below_set ?_ GE233.out) | exact HB.out))) : w.heap.size ≤ gb243))
                  have n5_ := Aside0.mk ((by rw [hg]; exact (below_size (by repeat (first | (with_reducible first | exact HB.out | apply below_alloc | apply pw_below_drewN | apply below_drew1 | refine below_set ?_ GE233.out) | exact HB.out))) : w.heap.size ≤ gb243))
                  have n6_ := Aside0.mk ((by rw [hg]; exact Nat.ne_of_lt (blk_lt (g := gb233) (o := .cells #[.int .i64 t227, .int .i64 t228, .int .i64 t229] 25 (0, 0)) (by (with_reducible repeat (first | refine blk_drewN ?_ _ | refine blk_drew ?_ | refine blk_alloc ?_ _)); exact BK233.out)) : gb233 ≠ gb243))
                  have n7_ := Aside0.mk ((by rw [hg]; exact Nat.ne_of_gt (blk_lt (g := gb233) (o := .cells #[.int .i64 t227, .int .i64 t228, .int .i64 t229] 25 (0, 0)) (by (with_reducible repeat (first | refine blk_drewN ?_ _ | refine blk_drew ?_ | refine blk_alloc ?_ _)); exact BK233.out)) : gb243 ≠ gb233))
                  clear HO_4
                  clear BK233
                  clear HB
                  have HO_4 := n0_
                  have BK233 := n1_
                  have HB := n2_
                  have BK243 := n3_
                  have GW243 := n4_
                  have GE243 := n5_
                  have NB233_243 := n6_
                  have NB243_233 := n7_
                  clear n0_ n1_ n2_ n3_ n4_ n5_ n6_ n7_
                  clear hb hbox hg
                  refine hK.out _ _ ⟨(blk_cell BK233.out 0).trans rfl, (blk_cell BK233.out 1).trans rfl, (blk_cell BK233.out 2).trans rfl⟩ (fun hHeld => ?_)
                  clear hK K
                  refine norm_ (a' := ?_) ?_ ?_
                  rotate_left
                  ·show Act.put _ (some 7) _ = _
                   simp only [Act.put, List.setIfInBounds_toArray, List.set_cons_zero, List.set_cons_succ, i64_w, i32_w]
                   rfl
                  refine one_ (i := 3) (N := some 52) #[true, true, true, true, false, false, true, true, true, false, false, false, true, true, true, false, false, false, false, true, false] rfl rfl (one_of HT_.out (by kernel_rfl)) (by decide) (fun K hK => ?_)
                  refine goes_ Try.func10 (by kernel_rfl) rfl #[.slice A0 l0.length c0, .int .i64 2] (by rfl) rfl rfl (by (try simp only [List.map_toArray, List.map_cons, List.map_nil]); first | done | rfl | (simp only [List.length_drop, List.length_take]; rfl)) ?_
                  with_reducible refine (laws_at.calls _ _ l0 2 t240 _ ?side1 ?side2 A25.out).mono ?_
                  (case side1 => repeat (first | exact (Kd.C_below HR0.out HB.out) | (with_reducible refine Kd.C_alloc ?_ _) | (with_reducible refine Kd.C_drewN ?_ _) | (with_reducible refine Kd.C_drew ?_)))
                  (case side2 => exact HC0.out)
                  rintro e w' ⟨rfl, ⟨nd, rfl⟩⟩
                  refine ⟨_, rfl, ?_⟩
                  refine hK.out _ _ ⟨(blk_cell BK233.out 0).trans rfl, (blk_cell BK233.out 1).trans rfl, (blk_cell BK233.out 2).trans rfl⟩ (fun hHeld => ?_)
                  clear hK K
                  refine norm_ (a' := ?_) ?_ ?_
                  rotate_left
                  ·show Act.put _ (some 52) _ = _
                   simp only [Act.put, List.setIfInBounds_toArray, List.set_cons_zero, List.set_cons_succ, i64_w, i32_w]
                   rfl
                  refine pure_ (i := 4) (N := some 53) (v := ?_) (a' := ?_) #[true, true, true, true, true, false, true, true, true, false, false, false, true, true, true, false, false, false, false, true, false] rfl rfl (any_of HT_.out (by kernel_rfl)) (fun _ _ _ h => h) (Or.inl ⟨by rfl, ?_⟩) ?_ ?_
                  rotate_left
                  ·intro w'
                   go_simp
                   with_reducible rfl
                  rotate_left
                  ·simp only [Act.put, List.setIfInBounds_toArray, List.set_cons_zero, List.set_cons_succ, i64_w, i32_w]
                   rfl
                  refine pure_ (i := 5) (N := some 54) (v := ?_) (a' := ?_) #[true, true, true, true, true, true, true, true, true, false, false, false, true, true, true, false, false, false, false, true, false] rfl rfl (any_of HT_.out (by kernel_rfl)) (fun _ _ _ h => h) (Or.inl ⟨by rfl, ?_⟩) ?_ ?_
                  rotate_left
                  ·intro w'
                   go_simp
                   with_reducible rfl
                  rotate_left
                  ·simp only [Act.put, List.setIfInBounds_toArray, List.set_cons_zero, List.set_cons_succ, i64_w, i32_w]
                   rfl
                  refine one_ (i := 9) (N := some 58) #[true, true, true, true, true, true, true, true, true, true, false, false, true, true, true, false, false, false, false, true, false] rfl rfl (one_of HT_.out (by kernel_rfl)) (by decide) (fun K hK => ?_)
                  refine goes_ Try.func10 (by kernel_rfl) rfl #[.slice A0 l0.length c0, .int .i64 3] (by rfl) rfl rfl (by (try simp only [List.map_toArray, List.map_cons, List.map_nil]); first | done | rfl | (simp only [List.length_drop, List.length_take]; rfl)) ?_
                  with_reducible refine (laws_at.calls _ _ l0 3 t241 _ ?side1 ?side2 A26.out).mono ?_
                  (case side1 => repeat (first | exact (Kd.C_below HR0.out (by repeat (first | (with_reducible first | exact HB.out | apply below_alloc | apply pw_below_drewN | apply below_drew1 | refine below_set ?_ GE233.out | refine below_set ?_ GE243.out) | exact HB.out))) | (with_reducible refine Kd.C_alloc ?_ _) | (with_reducible refine Kd.C_drewN ?_ _) | (with_reducible refine Kd.C_drew ?_)))
                  (case side2 => exact HC0.out)
                  rintro e w' ⟨rfl, ⟨nd, rfl⟩⟩
                  refine ⟨_, rfl, ?_⟩
                  refine hK.out _ _ ⟨(blk_cell BK233.out 0).trans rfl, (blk_cell BK233.out 1).trans rfl, (blk_cell BK233.out 2).trans rfl⟩ (fun hHeld => ?_)
                  clear hK K
                  refine norm_ (a' := ?_) ?_ ?_
                  rotate_left
                  ·show Act.put _ (some 58) _ = _
                   simp only [Act.put, List.setIfInBounds_toArray, List.set_cons_zero, List.set_cons_succ, i64_w, i32_w]
                   rfl
                  refine pure_ (i := 10) (N := some 59) (v := ?_) (a' := ?_) #[true, true, true, true, true, true, true, true, true, true, true, false, true, true, true, false, false, false, false, true, false] rfl rfl (any_of HT_.out (by kernel_rfl)) (fun _ _ _ h => h) (Or.inl ⟨by rfl, ?_⟩) ?_ ?_
                  rotate_left
                  ·intro w'
                   go_simp
                   with_reducible rfl
                  rotate_left
                  ·simp only [Act.put, List.setIfInBounds_toArray, List.set_cons_zero, List.set_cons_succ, i64_w, i32_w]
                   rfl
                  refine pure_ (i := 11) (N := some 60) (v := ?_) (a' := ?_) #[true, true, true, true, true, true, true, true, true, true, true, true, true, true, true, false, false, false, false, true, false] rfl rfl (any_of HT_.out (by kernel_rfl)) (fun _ _ _ h => h) (Or.inl ⟨by rfl, ?_⟩) ?_ ?_
                  rotate_left
                  ·intro w'
                   go_simp
                   with_reducible rfl
                  rotate_left
                  ·simp only [Act.put, List.setIfInBounds_toArray, List.set_cons_zero, List.set_cons_succ, i64_w, i32_w]
                   rfl
                  refine one_ (i := 15) (N := some 64) #[true, true, true, true, true, true, true, true, true, true, true, true, true, true, true, true, false, false, false, true, false] rfl rfl (one_of HT_.out (by kernel_rfl)) (by decide) (fun K hK => ?_)
                  refine goes_ Try.func10 (by kernel_rfl) rfl #[.slice A0 l0.length c0, .int .i64 4] (by rfl) rfl rfl (by (try simp only [List.map_toArray, List.map_cons, List.map_nil]); first | done | rfl | (simp only [List.length_drop, List.length_take]; rfl)) ?_
                  with_reducible refine (laws_at.calls _ _ l0 4 t242 _ ?side1 ?side2 A27.out).mono ?_
                  (case side1 => repeat (first | exact (Kd.C_below HR0.out (by repeat (first | (with_reducible first | exact HB.out | apply below_alloc | apply pw_below_drewN | apply below_drew1 | refine below_set ?_ GE233.out | refine below_set ?_ GE243.out) | exact HB.out))) | (with_reducible refine Kd.C_alloc ?_ _) | (with_reducible refine Kd.C_drewN ?_ _) | (with_reducible refine Kd.C_drew ?_)))
                  (case side2 => exact HC0.out)
                  rintro e w' ⟨rfl, ⟨nd, rfl⟩⟩
                  refine ⟨_, rfl, ?_⟩
                  refine hK.out _ _ ⟨(blk_cell BK233.out 0).trans rfl, (blk_cell BK233.out 1).trans rfl, (blk_cell BK233.out 2).trans rfl⟩ (fun hHeld => ?_)
                  clear hK K
                  refine norm_ (a' := ?_) ?_ ?_
                  rotate_left
                  ·show Act.put _ (some 64) _ = _
                   simp only [Act.put, List.setIfInBounds_toArray, List.set_cons_zero, List.set_cons_succ, i64_w, i32_w]
                   rfl
                  refine pure_ (i := 16) (N := some 65) (v := ?_) (a' := ?_) #[true, true, true, true, true, true, true, true, true, true, true, true, true, true, true, true, true, false, false, true, false] rfl rfl (any_of HT_.out (by kernel_rfl)) (fun _ _ _ h => h) (Or.inl ⟨by rfl, ?_⟩) ?_ ?_
                  rotate_left
                  ·intro w'
                   go_simp
                   with_reducible rfl
                  rotate_left
                  ·simp only [Act.put, List.setIfInBounds_toArray, List.set_cons_zero, List.set_cons_succ, i64_w, i32_w]
                   rfl
                  refine pure_ (i := 17) (N := some 66) (v := ?_) (a' := ?_) #[true, true, true, true, true, true, true, true, true, true, true, true, true, true, true, true, true, true, false, true, false] rfl rfl (any_of HT_.out (by kernel_rfl)) (fun _ _ _ h => h) (Or.inl ⟨by rfl, ?_⟩) ?_ ?_
                  rotate_left
                  ·intro w'
                   go_simp
                   with_reducible rfl
                  rotate_left
                  ·simp only [Act.put, List.setIfInBounds_toArray, List.set_cons_zero, List.set_cons_succ, i64_w, i32_w]
                   rfl
                  refine pure_ (i := 18) (N := some 67) (v := ?_) (a' := ?_) #[true, true, true, true, true, true, true, true, true, true, true, true, true, true, true, true, true, true, true, true, false] rfl rfl (any_of HT_.out (by kernel_rfl)) (fun _ _ _ h => h) (Or.inl ⟨by rfl, ?_⟩) ?_ ?_
                  rotate_left
                  ·intro w'
                   go_simp
                   with_reducible rfl
                  rotate_left
                  ·simp only [Act.put, List.setIfInBounds_toArray, List.set_cons_zero, List.set_cons_succ, i64_w, i32_w]
                   rfl
                  exact norm_ (by simp only [putAll, Act.put, List.setIfInBounds_toArray, List.set_cons_zero, List.set_cons_succ]) (hCont (gb243) _ ⟨hHeld, (by (with_reducible repeat (first | apply Kd.R_alloc | apply Kd.R_drewN | apply Kd.R_drew)); exact HO_4.out), (by (with_reducible repeat (first | refine blk_drewN ?_ _ | refine blk_drew ?_ | refine blk_alloc ?_ _)); exact BK233.out), (by (with_reducible repeat (first | refine blk_drewN ?_ _ | refine blk_drew ?_ | refine blk_alloc ?_ _)); exact BK243.out), GW243.out, GE243.out, NB233_243.out, NB243_233.out, (by repeat (first | (with_reducible first | exact HB.out | apply below_alloc | apply pw_below_drewN | apply below_drew1 | refine below_set ?_ GE233.out | refine below_set ?_ GE243.out) | exact HB.out))⟩)
                rintro gb243 w77 ⟨hS_, h0_, h1_, h2_, h3_, h4_, h5_, h6_, h7_⟩
                have n0_ : Aside0 (Kd.R (Kd.int .i64) 3 w77 w.heap.size (fun _ => True) (.slice Ao11 t230.length co11) t230) := ⟨h0_⟩
                have n1_ : Aside0 (w77.heap[gb233]? = some (.cells #[.int .i64 t227, .int .i64 t228, .int .i64 t229] 25 (0, 0))) := ⟨h1_⟩
                have n2_ : Aside0 (w77.heap[gb243]? = some (.cells #[.int .i64 0, .int .i64 0, .int .i64 0] 25 (0, 0))) := ⟨h2_⟩
                have n3_ : Aside0 (w.heap.size ≤ gb243) := ⟨h3_⟩
                have n4_ : Aside0 (w.heap.size ≤ gb243) := ⟨h4_⟩
                have n5_ : Aside0 (gb233 ≠ gb243) := ⟨h5_⟩
                have n6_ : Aside0 (gb243 ≠ gb233) := ⟨h6_⟩
                have n7_ : Aside0 (Below w.heap.size w w77) := ⟨h7_⟩
                clear HO_4
                clear BK233
                clear HB
                clear h0_ h1_ h2_ h3_ h4_ h5_ h6_ h7_
                have HO_4 := n0_
                have BK233 := n1_
                have BK243 := n2_
                have GW243 := n3_
                have GE243 := n4_
                have NB233_243 := n5_
                have NB243_233 := n6_
                have HB := n7_
                clear n0_ n1_ n2_ n3_ n4_ n5_ n6_ n7_
                have hHeld : w77.cell? ⟨gb233, 0, none⟩ = some (.int .i64 t227) ∧ w77.cell? ⟨gb233, 1, none⟩ = some (.int .i64 t228) ∧ w77.cell? ⟨gb233, 2, none⟩ = some (.int .i64 t229) := hS_
                refine norm_ (a' := ?_) ?_ ?_
                rotate_left
                ·simp only [putAll, Act.put, List.setIfInBounds_toArray, List.set_cons_zero, List.set_cons_succ]
                 rfl
                refine one_ (i := 20) (N := none) #[true, true, true, true, true, true, true, true, true, true, true, true, true, true, true, true, true, true, true, true, true] rfl rfl (one_of HT_.out (by kernel_rfl)) (by decide) (fun K hK => ?_)
                have hs78 : w77.cell? ⟨gb243, 0, none⟩ = some (.int .i64 0) := (blk_cell BK243.out 0).trans rfl
                have hfs78 := blk_frozen BK243.out 0
                have hns78_0 := NB233_243.out
                have hms78_0 := NB243_233.out
                have hs79 : w77.cell? ⟨gb243, 1, none⟩ = some (.int .i64 0) := (blk_cell BK243.out 1).trans rfl
                have hfs79 := blk_frozen BK243.out 1
                have hns79_0 := NB233_243.out
                have hms79_0 := NB243_233.out
                have hs80 : w77.cell? ⟨gb243, 2, none⟩ = some (.int .i64 0) := (blk_cell BK243.out 2).trans rfl
                have hfs80 := blk_frozen BK243.out 2
                have hns80_0 := NB233_243.out
                have hms80_0 := NB243_233.out
                refine skip_ (w1 := ?_) (by rfl) rfl ?_ ?_
                rotate_left
                ·go_simp
                 rfl
                refine hK.out _ _ ⟨((cell_far (p := ⟨gb243, _, none⟩) NB233_243.out _).trans (((cell_far (p := ⟨gb243, _, none⟩) NB233_243.out _).trans (((cell_far (p := ⟨gb243, _, none⟩) NB233_243.out _).trans (hHeld.1)))))), ((cell_far (p := ⟨gb243, _, none⟩) NB233_243.out _).trans (((cell_far (p := ⟨gb243, _, none⟩) NB233_243.out _).trans (((cell_far (p := ⟨gb243, _, none⟩) NB233_243.out _).trans (hHeld.2.1)))))), ((cell_far (p := ⟨gb243, _, none⟩) NB233_243.out _).trans (((cell_far (p := ⟨gb243, _, none⟩) NB233_243.out _).trans (((cell_far (p := ⟨gb243, _, none⟩) NB233_243.out _).trans (hHeld.2.2))))))⟩ (fun hHeld => ?_)
                clear hK K
                refine done_ (done_of HT_.out (by kernel_rfl)) ?_
                have hsd_ : ∀ (w_ : World) (n_ : Nat) (a_ : Addr) (v_ : Value), (w_.drewN n_).setCell a_ v_ = (w_.setCell a_ v_).drewN n_ := (by intro w_ n_ a_ v_; unfold World.setCell World.drewN; simp only)
                (repeat rw [hsd_])
                clear hsd_
                have n0_ : Aside0 (Kd.R (Kd.int .i64) 3 (((w77.setCell ⟨gb243, 0, none⟩ (.int .i64 (wrap64 (t227 + (Int.tmod t240 20))))).setCell ⟨gb243, 1, none⟩ (.int .i64 (wrap64 (t228 + (Int.tmod t241 20))))).setCell ⟨gb243, 2, none⟩ (.int .i64 (wrap64 (t229 + (Int.tmod t242 20))))) w.heap.size (fun _ => True) (.slice Ao11 t230.length co11) t230) := ⟨by (with_reducible repeat (first | apply Kd.R_alloc | apply Kd.R_drewN | apply Kd.R_drew)); exact Kd.R_mono (Kd.R_far (p := ⟨gb243, 2, none⟩) (Kd.R_far (p := ⟨gb243, 1, none⟩) (Kd.R_far (p := ⟨gb243, 0, none⟩) (Kd.R_types HO_4.out BK243.out (by decide)) (fun _ hk => hk.2) (.int .i64 (wrap64 (t227 + (Int.tmod t240 20))))) (fun _ hk => hk.2) (.int .i64 (wrap64 (t228 + (Int.tmod t241 20))))) (fun _ hk => hk.2) (.int .i64 (wrap64 (t229 + (Int.tmod t242 20))))) (fun _ hk => trivial)⟩
                have n1_ : Aside0 ((((w77.setCell ⟨gb243, 0, none⟩ (.int .i64 (wrap64 (t227 + (Int.tmod t240 20))))).setCell ⟨gb243, 1, none⟩ (.int .i64 (wrap64 (t228 + (Int.tmod t241 20))))).setCell ⟨gb243, 2, none⟩ (.int .i64 (wrap64 (t229 + (Int.tmod t242 20))))).heap[gb233]? = some (.cells #[.int .i64 t227, .int .i64 t228, .int .i64 t229] 25 (0, 0))) := ⟨by (with_reducible repeat (first | refine blk_drewN ?_ _ | refine blk_drew ?_ | refine blk_alloc ?_ _)); refine blk_far ?_ NB233_243.out _; (with_reducible repeat (first | refine blk_drewN ?_ _ | refine blk_drew ?_ | refine blk_alloc ?_ _)); refine blk_far ?_ NB233_243.out _; (with_reducible repeat (first | refine blk_drewN ?_ _ | refine blk_drew ?_ | refine blk_alloc ?_ _)); refine blk_far ?_ NB233_243.out _; (with_reducible repeat (first | refine blk_drewN ?_ _ | refine blk_drew ?_ | refine blk_alloc ?_ _)); exact BK233.out⟩
                have n2_ : Aside0 ((((w77.setCell ⟨gb243, 0, none⟩ (.int .i64 (wrap64 (t227 + (Int.tmod t240 20))))).setCell ⟨gb243, 1, none⟩ (.int .i64 (wrap64 (t228 + (Int.tmod t241 20))))).setCell ⟨gb243, 2, none⟩ (.int .i64 (wrap64 (t229 + (Int.tmod t242 20))))).heap[gb243]? = some (.cells #[.int .i64 (wrap64 (t227 + (Int.tmod t240 20))), .int .i64 (wrap64 (t228 + (Int.tmod t241 20))), .int .i64 (wrap64 (t229 + (Int.tmod t242 20)))] 25 (0, 0))) := ⟨by (with_reducible repeat (first | refine blk_drewN ?_ _ | refine blk_drew ?_ | refine blk_alloc ?_ _)); refine blk_put (cs := #[.int .i64 (wrap64 (t227 + (Int.tmod t240 20))), .int .i64 (wrap64 (t228 + (Int.tmod t241 20))), .int .i64 0]) ?_ 2 _ rfl; (with_reducible repeat (first | refine blk_drewN ?_ _ | refine blk_drew ?_ | refine blk_alloc ?_ _)); refine blk_put (cs := #[.int .i64 (wrap64 (t227 + (Int.tmod t240 20))), .int .i64 0, .int .i64 0]) ?_ 1 _ rfl; (with_reducible repeat (first | refine blk_drewN ?_ _ | refine blk_drew ?_ | refine blk_alloc ?_ _)); refine blk_put (cs := #[.int .i64 0, .int .i64 0, .int .i64 0]) ?_ 0 _ rfl; (with_reducible repeat (first | refine blk_drewN ?_ _ | refine blk_drew ?_ | refine blk_alloc ?_ _)); exact BK243.out⟩
                have n3_ : Aside0 (Below w.heap.size w (((w77.setCell ⟨gb243, 0, none⟩ (.int .i64 (wrap64 (t227 + (Int.tmod t240 20))))).setCell ⟨gb243, 1, none⟩ (.int .i64 (wrap64 (t228 + (Int.tmod t241 20))))).setCell ⟨gb243, 2, none⟩ (.int .i64 (wrap64 (t229 + (Int.tmod t242 20)))))) := ⟨by repeat (first | (with_reducible first | exact HB.out | apply below_alloc | apply pw_below_drewN | apply below_drew1 | refine below_set ?_ GE233.out | refine below_set ?_ GE243.out) | exact HB.out)⟩
                (try clear HO_4)
                (try clear BK233)
                (try clear BK243)
                (try clear HB)
                generalize (((w77.setCell ⟨gb243, 0, none⟩ (.int .i64 (wrap64 (t227 + (Int.tmod t240 20))))).setCell ⟨gb243, 1, none⟩ (.int .i64 (wrap64 (t228 + (Int.tmod t241 20))))).setCell ⟨gb243, 2, none⟩ (.int .i64 (wrap64 (t229 + (Int.tmod t242 20))))) = w81 at n0_ n1_ n2_ n3_ ⊢
                have HO_4 := n0_
                have BK233 := n1_
                have BK243 := n2_
                have HB := n3_
                clear n0_ n1_ n2_ n3_
                (first | (rw [drewN_self w81]; generalize hq_ : World.drewN w81 _ = w81; have n0_ : Aside0 (Kd.R (Kd.int .i64) 3 w81 w.heap.size (fun _ => True) (.slice Ao11 t230.length co11) t230) := ⟨by rw [← hq_]; exact (by (with_reducible repeat (first | apply Kd.R_alloc | apply Kd.R_drewN | apply Kd.R_drew)); exact HO_4.out)⟩; have n1_ : Aside0 (w81.heap[gb233]? = some (.cells #[.int .i64 t227, .int .i64 t228, .int .i64 t229] 25 (0, 0))) := ⟨by rw [← hq_]; exact (by (with_reducible repeat (first | refine blk_drewN ?_ _ | refine blk_drew ?_ | refine blk_alloc ?_ _)); exact BK233.out)⟩; have n2_ : Aside0 (w81.heap[gb243]? = some (.cells #[.int .i64 (wrap64 (t227 + (Int.tmod t240 20))), .int .i64 (wrap64 (t228 + (Int.tmod t241 20))), .int .i64 (wrap64 (t229 + (Int.tmod t242 20)))] 25 (0, 0))) := ⟨by rw [← hq_]; exact (by (with_reducible repeat (first | refine blk_drewN ?_ _ | refine blk_drew ?_ | refine blk_alloc ?_ _)); exact BK243.out)⟩; have n3_ : Aside0 (Below w.heap.size w w81) := ⟨by rw [← hq_]; exact (by repeat (first | (with_reducible first | exact HB.out | apply below_alloc | apply pw_below_drewN | apply below_drew1 | refine below_set ?_ GE233.out | refine below_set ?_ GE243.out) | exact HB.out))⟩; clear HO_4 BK233 BK243 HB hq_; have HO_4 := n0_; have BK233 := n1_; have BK243 := n2_; have HB := n3_; clear n0_ n1_ n2_ n3_) | (have n0_ : Aside0 (Kd.R (Kd.int .i64) 3 w81 w.heap.size (fun _ => True) (.slice Ao11 t230.length co11) t230) := ⟨(by (with_reducible repeat (first | apply Kd.R_alloc | apply Kd.R_drewN | apply Kd.R_drew)); exact HO_4.out)⟩; have n1_ : Aside0 (w81.heap[gb233]? = some (.cells #[.int .i64 t227, .int .i64 t228, .int .i64 t229] 25 (0, 0))) := ⟨(by (with_reducible repeat (first | refine blk_drewN ?_ _ | refine blk_drew ?_ | refine blk_alloc ?_ _)); exact BK233.out)⟩; have n2_ : Aside0 (w81.heap[gb243]? = some (.cells #[.int .i64 (wrap64 (t227 + (Int.tmod t240 20))), .int .i64 (wrap64 (t228 + (Int.tmod t241 20))), .int .i64 (wrap64 (t229 + (Int.tmod t242 20)))] 25 (0, 0))) := ⟨(by (with_reducible repeat (first | refine blk_drewN ?_ _ | refine blk_drew ?_ | refine blk_alloc ?_ _)); exact BK243.out)⟩; have n3_ : Aside0 (Below w.heap.size w w81) := ⟨(by repeat (first | (with_reducible first | exact HB.out | apply below_alloc | apply pw_below_drewN | apply below_drew1 | refine below_set ?_ GE233.out | refine below_set ?_ GE243.out) | exact HB.out))⟩; clear HO_4 BK233 BK243 HB; have HO_4 := n0_; have BK233 := n1_; have BK243 := n2_; have HB := n3_; clear n0_ n1_ n2_ n3_))
                have hnb82 := NB243_233.out
                have hnc82 := NB233_243.out
                have hcz83_0 : w81.cell? ⟨gb243, 0, none⟩ = some (.int .i64 (wrap64 (t227 + (Int.tmod t240 20)))) := (blk_cell BK243.out 0).trans rfl
                have hcz83_1 : w81.cell? ⟨gb243, 1, none⟩ = some (.int .i64 (wrap64 (t228 + (Int.tmod t241 20)))) := (blk_cell BK243.out 1).trans rfl
                have hcz83_2 : w81.cell? ⟨gb243, 2, none⟩ = some (.int .i64 (wrap64 (t229 + (Int.tmod t242 20)))) := (blk_cell BK243.out 2).trans rfl
                have hfz83_0 := blk_frozen BK243.out 0
                have hfz83_1 := blk_frozen BK243.out 1
                have hfz83_2 := blk_frozen BK243.out 2
                try go_wp2_with (first | ((with_reducible refine gate_callee (f := 8) rfl ?_); refine goesL_ (some 70) rfl rfl Try.func8 (by kernel_rfl) rfl #[.agg #[.int .i64 (wrap64 (t227 + (Int.tmod t240 20))), .int .i64 (wrap64 (t228 + (Int.tmod t241 20))), .int .i64 (wrap64 (t229 + (Int.tmod t242 20)))], .slice Ao11 t230.length co11] rfl (by (try simp only [List.map_toArray, List.map_cons, List.map_nil]); first | done | rfl | (simp only [List.length_drop, List.length_take]; rfl)) ?_; (with_reducible refine (impl_RunTime.calls kj6 (wrap64 (t227 + (Int.tmod t240 20))) (wrap64 (t228 + (Int.tmod t241 20))) (wrap64 (t229 + (Int.tmod t242 20))) _ _ t230 t244 _ ?side1 ?side2 A28.out).mono ?_); (case side1 => repeat (first | exact (Kd.R_reads' HO_4.out).2.2 | (with_reducible refine Kd.C_alloc ?_ _) | (with_reducible refine Kd.C_drewN ?_ _) | (with_reducible refine Kd.C_drew ?_))); (case side2 => exact (Kd.R_reads' HO_4.out).2.1); rintro e w84 ⟨rfl, hb⟩; refine ⟨_, rfl, ?_⟩; have n0_ := Aside0.mk (Kd.R_below (by (with_reducible repeat (first | apply Kd.R_alloc | apply Kd.R_drewN | apply Kd.R_drew)); exact HO_4.out) hb); have n1_ := Aside0.mk (blk_below (g := gb233) (o := .cells #[.int .i64 t227, .int .i64 t228, .int .i64 t229] 25 (0, 0)) (by (with_reducible repeat (first | refine blk_drewN ?_ _ | refine blk_drew ?_ | refine blk_alloc ?_ _)); exact BK233.out) hb); have n2_ := Aside0.mk (blk_below (g := gb243) (o := .cells #[.int .i64 (wrap64 (t227 + (Int.tmod t240 20))), .int .i64 (wrap64 (t228 + (Int.tmod t241 20))), .int .i64 (wrap64 (t229 + (Int.tmod t242 20)))] 25 (0, 0)) (by (with_reducible repeat (first | refine blk_drewN ?_ _ | refine blk_drew ?_ | refine blk_alloc ?_ _)); exact BK243.out) hb); have n3_ := Aside0.mk (below_step (by repeat (first | (with_reducible first | exact HB.out | apply below_alloc | apply pw_below_drewN | apply below_drew1 | refine below_set ?_ GE233.out | refine below_set ?_ GE243.out) | exact HB.out)) hb); clear HO_4; clear BK233; clear BK243; clear HB; have HO_4 := n0_; have BK233 := n1_; have BK243 := n2_; have HB := n3_; clear n0_ n1_ n2_ n3_; (try clear hb); (try clear hb2); (try clear hk); (try clear hi)) | ((with_reducible refine gate_dst (N := 73) rfl ?_); (try (refine gate_guard (by rfl) ?_; dsimp only)); refine Kd.R_lit (Kd.int .i64) _ 3 ?hg (N := 73) ?hd (xs := ([] : List Int)) (inner := []) (ok := fun _ => True) (okp := fun _ => True) ?hr ?hp (fun _ hk => hk) trivial (Below.refl _ _) (Nat.le_refl _) (by simp) ?_; (case hd => rfl); (case hg => rfl); (case hr => first | (go_simp; done) | (go_simp; rfl)); (case hp => exact (Reps.none _ _)); intro v246 w85 ho86 hb hg_ hnew_; clear hg_ hnew_; (first | rw [← Ny245.out] at ho86 | (simp only [Int.reduceToNat] at ho86; rw [← Ny245.out] at ho86)); have n0_ := Aside0.mk (Kd.R_elder' (by (with_reducible repeat (first | apply Kd.R_alloc | apply Kd.R_drewN | apply Kd.R_drew)); exact HO_4.out) (Kd.R_base ho86) hb); have n1_ := Aside0.mk (Kd.R_lower (Kd.R_new' ho86 (Kd.R_lt (by (with_reducible repeat (first | apply Kd.R_alloc | apply Kd.R_drewN | apply Kd.R_drew)); exact HO_4.out))) (below_size (by repeat (first | (with_reducible first | exact HB.out | apply below_alloc | apply pw_below_drewN | apply below_drew1 | refine below_set ?_ GE233.out | refine below_set ?_ GE243.out) | exact HB.out)))); have n2_ := Aside0.mk (blk_below (g := gb233) (o := .cells #[.int .i64 t227, .int .i64 t228, .int .i64 t229] 25 (0, 0)) (by (with_reducible repeat (first | refine blk_drewN ?_ _ | refine blk_drew ?_ | refine blk_alloc ?_ _)); exact BK233.out) hb); have n3_ := Aside0.mk (blk_below (g := gb243) (o := .cells #[.int .i64 (wrap64 (t227 + (Int.tmod t240 20))), .int .i64 (wrap64 (t228 + (Int.tmod t241 20))), .int .i64 (wrap64 (t229 + (Int.tmod t242 20)))] 25 (0, 0)) (by (with_reducible repeat (first | refine blk_drewN ?_ _ | refine blk_drew ?_ | refine blk_alloc ?_ _)); exact BK243.out) hb); have n4_ := Aside0.mk (below_step (by repeat (first | (with_reducible first | exact HB.out | apply below_alloc | apply pw_below_drewN | apply below_drew1 | refine below_set ?_ GE233.out | refine below_set ?_ GE243.out) | exact HB.out)) hb); clear HO_4; clear BK233; clear BK243; clear HB; have HO_4 := n0_; have HO247 := n1_; have BK233 := n2_; have BK243 := n3_; have HB := n4_; clear n0_ n1_ n2_ n3_ n4_; clear hb ho86) | ((with_reducible refine gate_builtin (b := .append) (xs := #[.tmp 73, .tmp 74]) rfl ?_); (try (refine gate_guard (by rfl) ?_; dsimp only)); at_builtin; refine Kd.R_append_rows (Kd.int .i64) (w0 := w) w.heap.size rfl (.tmp 73) (.tmp 74) 26 3 (.int .i64 0) 8 rfl Try.underlying26 info3 rfl (by decide) (by omega) v246 y245 t230 _ _ _ (fun k_ => some k_ ≠ (.slice Ao11 t230.length co11 : Value).ownBlock) (fun _ => False) rfl rfl ?aO ?aR (fun _ _ h => h) (fun _ h => h.elim) ?aF ?aB ?aS ?aL ?_; (case aR => repeat (first | exact (Kd.R_reads' HO_4.out).2.2 | (with_reducible refine Kd.C_alloc ?_ _) | (with_reducible refine Kd.C_drewN ?_ _) | (with_reducible refine Kd.C_drew ?_))); (case aB => exact (by repeat (first | (with_reducible first | exact HB.out | apply below_alloc | apply pw_below_drewN | apply below_drew1 | refine below_set ?_ GE233.out | refine below_set ?_ GE243.out) | exact HB.out))); (case aF => exact (fun k_ hk => Kd.fresh' (Kd.R_lt (by (with_reducible repeat (first | apply Kd.R_alloc | apply Kd.R_drewN | apply Kd.R_drew)); exact HO_4.out)) k_ hk)); (case aO => exact (by (with_reducible repeat (first | apply Kd.R_alloc | apply Kd.R_drewN | apply Kd.R_drew)); exact Kd.R_mono HO247.out (fun _ hk => hk.2))); (case aS => exact (below_size (by repeat (first | (with_reducible first | exact HB.out | apply below_alloc | apply pw_below_drewN | apply below_drew1 | refine below_set ?_ GE233.out | refine below_set ?_ GE243.out) | exact HB.out)))); (case aL => have := LMc30.out; omega); intro v249 w87 ho hb hg hat; rw [← Ny248.out] at ho; have n0_ := Aside0.mk (Kd.R_after (ok := (fun _ => True)) (by (with_reducible repeat (first | apply Kd.R_alloc | apply Kd.R_drewN | apply Kd.R_drew)); exact HO_4.out) hg hat); have n1_ := Aside0.mk (blk_grown (g := gb233) (o := .cells #[.int .i64 t227, .int .i64 t228, .int .i64 t229] 25 (0, 0)) (by (with_reducible repeat (first | refine blk_drewN ?_ _ | refine blk_drew ?_ | refine blk_alloc ?_ _)); exact BK233.out) hg (Kd.R_ne HO247.out BK233.out (by decide))); have n2_ := Aside0.mk (blk_grown (g := gb243) (o := .cells #[.int .i64 (wrap64 (t227 + (Int.tmod t240 20))), .int .i64 (wrap64 (t228 + (Int.tmod t241 20))), .int .i64 (wrap64 (t229 + (Int.tmod t242 20)))] 25 (0, 0)) (by (with_reducible repeat (first | refine blk_drewN ?_ _ | refine blk_drew ?_ | refine blk_alloc ?_ _)); exact BK243.out) hg (Kd.R_ne HO247.out BK243.out (by decide))); have n3_ := Aside0.mk (hb); have n4_ := Aside0.mk (ho); clear HO_4; clear BK233; clear BK243; clear HB; clear HO247; have HO_4 := n0_; have BK233 := n1_; have BK243 := n2_; have HB := n3_; have HO250 := n4_; clear n0_ n1_ n2_ n3_ n4_; clear ho hb hg hat) | ((with_reducible refine gate_callee (f := 10) rfl ?_); refine goesL_ (some 77) rfl rfl Try.func10 (by kernel_rfl) rfl #[.slice A0 l0.length c0, .int .i64 5] rfl (by (try simp only [List.map_toArray, List.map_cons, List.map_nil]); first | done | rfl | (simp only [List.length_drop, List.length_take]; rfl)) ?_; (with_reducible refine (laws_at.calls _ _ l0 5 t251 _ ?side1 ?side2 A31.out).mono ?_); (case side1 => repeat (first | exact (Kd.C_below HR0.out HB.out) | (with_reducible refine Kd.C_alloc ?_ _) | (with_reducible refine Kd.C_drewN ?_ _) | (with_reducible refine Kd.C_drew ?_))); (case side2 => exact HC0.out); rintro e w' ⟨rfl, ⟨nd, rfl⟩⟩; refine ⟨_, rfl, ?_⟩; (first | (rw [drewN_self w87]; generalize hq_ : World.drewN w87 _ = w87; have n0_ : Aside0 (Kd.R (Kd.int .i64) 3 w87 w.heap.size (fun k_ => some k_ ≠ (.slice Ao11 t230.length co11 : Value).ownBlock) v249 y248) := ⟨by rw [← hq_]; exact (by (with_reducible repeat (first | apply Kd.R_alloc | apply Kd.R_drewN | apply Kd.R_drew)); exact HO250.out)⟩; have n1_ : Aside0 (Kd.R (Kd.int .i64) 3 w87 w.heap.size (fun k_ => some k_ ≠ (v249 : Value).ownBlock) (.slice Ao11 t230.length co11) t230) := ⟨by rw [← hq_]; exact (by (with_reducible repeat (first | apply Kd.R_alloc | apply Kd.R_drewN | apply Kd.R_drew)); exact Kd.R_mono HO_4.out (fun _ hk => hk.2))⟩; have n2_ : Aside0 (w87.heap[gb233]? = some (.cells #[.int .i64 t227, .int .i64 t228, .int .i64 t229] 25 (0, 0))) := ⟨by rw [← hq_]; exact (by (with_reducible repeat (first | refine blk_drewN ?_ _ | refine blk_drew ?_ | refine blk_alloc ?_ _)); exact BK233.out)⟩; have n3_ : Aside0 (w87.heap[gb243]? = some (.cells #[.int .i64 (wrap64 (t227 + (Int.tmod t240 20))), .int .i64 (wrap64 (t228 + (Int.tmod t241 20))), .int .i64 (wrap64 (t229 + (Int.tmod t242 20)))] 25 (0, 0))) := ⟨by rw [← hq_]; exact (by (with_reducible repeat (first | refine blk_drewN ?_ _ | refine blk_drew ?_ | refine blk_alloc ?_ _)); exact BK243.out)⟩; have n4_ : Aside0 (Below w.heap.size w w87) := ⟨by rw [← hq_]; exact (by repeat (first | (with_reducible first | exact HB.out | apply below_alloc | apply pw_below_drewN | apply below_drew1 | refine below_set ?_ GE233.out | refine below_set ?_ GE243.out) | exact HB.out))⟩; clear HO250 HO_4 BK233 BK243 HB hq_; have HO250 := n0_; have HO_4 := n1_; have BK233 := n2_; have BK243 := n3_; have HB := n4_; clear n0_ n1_ n2_ n3_ n4_) | (have n0_ : Aside0 (Kd.R (Kd.int .i64) 3 w87 w.heap.size (fun k_ => some k_ ≠ (.slice Ao11 t230.length co11 : Value).ownBlock) v249 y248) := ⟨(by (with_reducible repeat (first | apply Kd.R_alloc | apply Kd.R_drewN | apply Kd.R_drew)); exact HO250.out)⟩; have n1_ : Aside0 (Kd.R (Kd.int .i64) 3 w87 w.heap.size (fun k_ => some k_ ≠ (v249 : Value).ownBlock) (.slice Ao11 t230.length co11) t230) := ⟨(by (with_reducible repeat (first | apply Kd.R_alloc | apply Kd.R_drewN | apply Kd.R_drew)); exact Kd.R_mono HO_4.out (fun _ hk => hk.2))⟩; have n2_ : Aside0 (w87.heap[gb233]? = some (.cells #[.int .i64 t227, .int .i64 t228, .int .i64 t229] 25 (0, 0))) := ⟨(by (with_reducible repeat (first | refine blk_drewN ?_ _ | refine blk_drew ?_ | refine blk_alloc ?_ _)); exact BK233.out)⟩; have n3_ : Aside0 (w87.heap[gb243]? = some (.cells #[.int .i64 (wrap64 (t227 + (Int.tmod t240 20))), .int .i64 (wrap64 (t228 + (Int.tmod t241 20))), .int .i64 (wrap64 (t229 + (Int.tmod t242 20)))] 25 (0, 0))) := ⟨(by (with_reducible repeat (first | refine blk_drewN ?_ _ | refine blk_drew ?_ | refine blk_alloc ?_ _)); exact BK243.out)⟩; have n4_ : Aside0 (Below w.heap.size w w87) := ⟨(by repeat (first | (with_reducible first | exact HB.out | apply below_alloc | apply pw_below_drewN | apply below_drew1 | refine below_set ?_ GE233.out | refine below_set ?_ GE243.out) | exact HB.out))⟩; clear HO250 HO_4 BK233 BK243 HB; have HO250 := n0_; have HO_4 := n1_; have BK233 := n2_; have BK243 := n3_; have HB := n4_; clear n0_ n1_ n2_ n3_ n4_)); obtain ⟨Ao88, co88, eo88⟩ := Kd.R_slice HO250.out; subst eo88))
                have n0_ := Aside0.mk (Kd.R_drew HO_4.out)
                have n1_ := Aside0.mk (Kd.R_drew HO250.out)
                have n2_ := Aside0.mk (blk_drew BK233.out)
                have n3_ := Aside0.mk (blk_drew BK243.out)
                have n4_ := Aside0.mk (below_drew1 HB.out)
                clear HO_4
                clear HO250
                clear BK233
                clear BK243
                clear HB
                have HO_4 := n0_
                have HO250 := n1_
                have BK233 := n2_
                have BK243 := n3_
                have HB := n4_
                clear n0_ n1_ n2_ n3_ n4_
                have p252 : 0 ≤ ((ji33) : Int) := of_decide_eq_true (by first | (with_reducible assumption) | assumption)
                have q252 : (ji33) < (y248.length : Int) := of_decide_eq_true (by first | (with_reducible assumption) | assumption)
                obtain ⟨ad252, e252, hx252_0⟩ := Kd.at_int (Kd.R_reads' HO250.out).2.2 (ji33) p252 q252
                cases e252
                replace p252 := eq_true p252
                replace q252 := eq_true q252
                refine start_ (n := 13) (S := fun w' => w'.cell? (ad252.add ((ji33)).toNat) = some (.int .i64 (rd y248 (ji33)))) (ds := [12]) #[false, false, false, false, false, false, false, false, false, false, false, false, false] (by kernel_rfl) rfl rfl (hx252_0) (fun hHeld => ?_); refine with_tabW laws_FnFaster.tab13 laws_FnFaster.bits13 (fun HT_ HW_ => ?_)
                generalize w87.drew = w89 at HO_4 HO250 BK233 BK243 HB hx252_0 hHeld ⊢
                refine pure_ (i := 0) (N := some 81) (v := ?_) (a' := ?_) #[true, false, false, false, false, false, false, false, false, false, false, false, false] rfl rfl (any_of HT_.out (by kernel_rfl)) (fun _ _ _ h => h) (Or.inl ⟨by rfl, ?_⟩) ?_ ?_
                rotate_left
                ·intro w'
                 go_simp
                 with_reducible rfl
                rotate_left
                ·simp only [Act.put, List.setIfInBounds_toArray, List.set_cons_zero, List.set_cons_succ, i64_w, i32_w]
                 rfl
                refine pure_ (i := 1) (N := some 82) (v := ?_) (a' := ?_) #[true, true, false, false, false, false, false, false, false, false, false, false, false] rfl rfl (any_of HT_.out (by kernel_rfl)) (fun _ _ _ h => h) (Or.inl ⟨by rfl, ?_⟩) ?_ ?_
                rotate_left
                ·intro w'
                 go_simp
                 with_reducible rfl
                rotate_left
                ·simp only [Act.put, List.setIfInBounds_toArray, List.set_cons_zero, List.set_cons_succ, i64_w, i32_w]
                 rfl
                refine pure_ (i := 2) (N := some 83) (v := ?_) (a' := ?_) #[true, true, true, false, false, false, false, false, false, false, false, false, false] rfl rfl (any_of HT_.out (by kernel_rfl)) (fun _ _ _ h => h) (Or.inl ⟨by rfl, ?_⟩) ?_ ?_
                rotate_left
                ·intro w'
                 go_simp
                 with_reducible rfl
                rotate_left
                ·simp only [Act.put, List.setIfInBounds_toArray, List.set_cons_zero, List.set_cons_succ, i64_w, i32_w]
                 rfl
                refine pure_ (i := 3) (N := some 84) (v := ?_) (a' := ?_) #[true, true, true, true, false, false, false, false, false, false, false, false, false] rfl rfl (any_of HT_.out (by kernel_rfl)) (fun _ _ _ h => h) (Or.inl ⟨by rfl, ?_⟩) ?_ ?_
                rotate_left
                ·intro w'
                 go_simp
                 with_reducible rfl
                rotate_left
                ·simp only [Act.put, List.setIfInBounds_toArray, List.set_cons_zero, List.set_cons_succ, i64_w, i32_w]
                 rfl
                refine pure_ (i := 4) (N := some 85) (v := ?_) (a' := ?_) #[true, true, true, true, true, false, false, false, false, false, false, false, false] rfl rfl (any_of HT_.out (by kernel_rfl)) (fun _ _ _ h => h) (Or.inl ⟨by rfl, ?_⟩) ?_ ?_
                rotate_left
                ·intro w'
                 go_simp
                 with_reducible rfl
                rotate_left
                ·simp only [Act.put, List.setIfInBounds_toArray, List.set_cons_zero, List.set_cons_succ, i64_w, i32_w]
                 rfl
                refine pure_ (i := 7) (N := some 88) (v := ?_) (a' := ?_) #[true, true, true, true, true, false, false, true, false, false, false, false, false] rfl rfl (any_of HT_.out (by kernel_rfl)) (fun _ _ _ h => h) (Or.inl ⟨by rfl, ?_⟩) ?_ ?_
                rotate_left
                ·intro w'
                 go_simp
                 with_reducible rfl
                rotate_left
                ·simp only [Act.put, List.setIfInBounds_toArray, List.set_cons_zero, List.set_cons_succ, i64_w, i32_w]
                 rfl
                refine take_ (i := 5) (N := some 86) (v := ?_) (a' := ?_) #[true, true, true, true, true, true, false, true, false, false, false, false, false] rfl rfl (take_ofW HT_.out HW_.out (by kernel_rfl)) (fun _ _ _ h => h) (Or.inl ⟨by rfl, ?_⟩) hHeld ?_ ?_
                rotate_left
                ·intro w' s0
                 go_simp
                 with_reducible rfl
                rotate_left
                ·simp only [Act.put, List.setIfInBounds_toArray, List.set_cons_zero, List.set_cons_succ, i64_w, i32_w]
                 rfl
                refine pure_ (i := 6) (N := some 87) (v := ?_) (a' := ?_) #[true, true, true, true, true, true, true, true, false, false, false, false, false] rfl rfl (any_of HT_.out (by kernel_rfl)) (fun _ _ _ h => h) (Or.inl ⟨by rfl, ?_⟩) ?_ ?_
                rotate_left
                ·intro w'
                 go_simp
                 with_reducible rfl
                rotate_left
                ·simp only [Act.put, List.setIfInBounds_toArray, List.set_cons_zero, List.set_cons_succ, i64_w, i32_w]
                 rfl
                refine one_ (i := 8) (N := some 89) #[true, true, true, true, true, true, true, true, true, false, false, false, false] rfl rfl (one_of HT_.out (by kernel_rfl)) (by decide) (fun K hK => ?_)
                refine goes_ Try.func10 (by kernel_rfl) rfl #[.slice A0 l0.length c0, .int .i64 6] (by rfl) rfl rfl (by (try simp only [List.map_toArray, List.map_cons, List.map_nil]); first | done | rfl | (simp only [List.length_drop, List.length_take]; rfl)) ?_
                with_reducible refine (laws_at.calls _ _ l0 6 t253 _ ?side1 ?side2 A36.out).mono ?_
                (case side1 => repeat (first | exact (Kd.C_below HR0.out HB.out) | (with_reducible refine Kd.C_alloc ?_ _) | (with_reducible refine Kd.C_drewN ?_ _) | (with_reducible refine Kd.C_drew ?_)))
                (case side2 => exact HC0.out)
                rintro e w' ⟨rfl, ⟨nd, rfl⟩⟩
                refine ⟨_, rfl, ?_⟩
                have p37 : 0 ≤ ((ji33) : Int) := of_decide_eq_true (by first | (with_reducible assumption) | assumption)
                have q37 : ((ji33) : Int) < ((y248.length : Int) : Int) := of_decide_eq_true (by first | (with_reducible assumption) | assumption)
                obtain ⟨go37, co37, eo37, gb37, gl37, cl37, HG37⟩ := Kd.R_form HO250.out (by omega)
                (first | cases eo37 | (injection eo37 with ea_ en_ ec_; (first | subst ea_ | (injection ea_ with ea_; subst ea_)); subst ec_; clear en_))
                have GB37 := Aside0.mk gb37
                have GG37 := Aside0.mk HG37
                clear gb37 gl37 HG37
                (first | simp only [add_plain] at hx252_0 | skip)
                obtain ⟨hx37_0, hf37_0⟩ := Kd.R_celln 0 HO250.out ((ji33) : Int) p37 q37
                replace p37 := eq_true p37
                replace q37 := eq_true q37
                have HP90 := Kd.R_putn HO250.out ((ji33) : Int) (wrap64 ((wrap64 ((rd y248 (ji33)) + 1)) + (Int.tmod t253 20)))
                rw [← Ny254.out] at HP90
                have HQ90 := Aside0.mk HP90
                clear HP90
                refine hK.out _ _ (hHeld) (fun hHeld => ?_)
                clear hK K
                refine norm_ (a' := ?_) ?_ ?_
                rotate_left
                ·show Act.put _ (some 89) _ = _
                 simp only [Act.put, List.setIfInBounds_toArray, List.set_cons_zero, List.set_cons_succ, i64_w, i32_w]
                 rfl
                refine pure_ (i := 9) (N := some 90) (v := ?_) (a' := ?_) #[true, true, true, true, true, true, true, true, true, true, false, false, false] rfl rfl (any_of HT_.out (by kernel_rfl)) (fun _ _ _ h => h) (Or.inl ⟨by rfl, ?_⟩) ?_ ?_
                rotate_left
                ·intro w'
                 go_simp
                 with_reducible rfl
                rotate_left
                ·simp only [Act.put, List.setIfInBounds_toArray, List.set_cons_zero, List.set_cons_succ, i64_w, i32_w]
                 rfl
                refine pure_ (i := 10) (N := some 91) (v := ?_) (a' := ?_) #[true, true, true, true, true, true, true, true, true, true, true, false, false] rfl rfl (any_of HT_.out (by kernel_rfl)) (fun _ _ _ h => h) (Or.inl ⟨by rfl, ?_⟩) ?_ ?_
                rotate_left
                ·intro w'
                 go_simp
                 with_reducible rfl
                rotate_left
                ·simp only [Act.put, List.setIfInBounds_toArray, List.set_cons_zero, List.set_cons_succ, i64_w, i32_w]
                 rfl
                refine pure_ (i := 11) (N := some 92) (v := ?_) (a' := ?_) #[true, true, true, true, true, true, true, true, true, true, true, true, false] rfl rfl (any_of HT_.out (by kernel_rfl)) (fun _ _ _ h => h) (Or.inl ⟨by rfl, ?_⟩) ?_ ?_
                rotate_left
                ·intro w'
                 go_simp
                 with_reducible rfl
                rotate_left
                ·simp only [Act.put, List.setIfInBounds_toArray, List.set_cons_zero, List.set_cons_succ, i64_w, i32_w]
                 rfl
                refine last_ (i := 12) (N := none) #[true, true, true, true, true, true, true, true, true, true, true, true, true] rfl rfl (one_of HT_.out (by kernel_rfl)) (by decide) (fun K hK => ?_)
                refine skip_ (w1 := ?_) (by rfl) rfl ?_ ?_
                rotate_left
                ·go_simp
                 rfl
                refine hK.out _ _ ?_
                clear hK K
                refine done_ (done_of HT_.out (by kernel_rfl)) ?_
                have hsd_ : ∀ (w_ : World) (n_ : Nat) (a_ : Addr) (v_ : Value), (w_.drewN n_).setCell a_ v_ = (w_.setCell a_ v_).drewN n_ := (by intro w_ n_ a_ v_; unfold World.setCell World.drewN; simp only)
                (repeat rw [hsd_])
                clear hsd_
                have n0_ : Aside0 (Kd.R (Kd.int .i64) 3 (w89.setCell ⟨go37, ((ji33) : Int).toNat, none⟩ (.int .i64 (wrap64 ((wrap64 ((rd y248 (ji33)) + 1)) + (Int.tmod t253 20))))) w.heap.size (fun k_ => some k_ ≠ (.slice (some ⟨go37, 0, none⟩) y248.length co88 : Value).ownBlock) (.slice Ao11 t230.length co11) t230) := ⟨by (with_reducible repeat (first | apply Kd.R_alloc | apply Kd.R_drewN | apply Kd.R_drew)); exact Kd.R_mono (Kd.R_far (p := ⟨go37, ((ji33) : Int).toNat, none⟩) (Kd.R_mono HO_4.out (fun k_ hk => (⟨hk, fun e_ => hk (by rw [e_]; rfl)⟩ : _ ∧ k_ ≠ go37))) (fun _ hk => hk.2) (.int .i64 (wrap64 ((wrap64 ((rd y248 (ji33)) + 1)) + (Int.tmod t253 20))))) (fun _ hk => hk.1)⟩
                have n1_ : Aside0 (Kd.R (Kd.int .i64) 3 (w89.setCell ⟨go37, ((ji33) : Int).toNat, none⟩ (.int .i64 (wrap64 ((wrap64 ((rd y248 (ji33)) + 1)) + (Int.tmod t253 20))))) w.heap.size (fun k_ => some k_ ≠ (.slice Ao11 t230.length co11 : Value).ownBlock) (.slice (some ⟨go37, 0, none⟩) y248.length co88) y254) := ⟨by (with_reducible repeat (first | apply Kd.R_alloc | apply Kd.R_drewN | apply Kd.R_drew)); exact HQ90.out⟩
                have n2_ : Aside0 ((w89.setCell ⟨go37, ((ji33) : Int).toNat, none⟩ (.int .i64 (wrap64 ((wrap64 ((rd y248 (ji33)) + 1)) + (Int.tmod t253 20))))).heap[gb233]? = some (.cells #[.int .i64 t227, .int .i64 t228, .int .i64 t229] 25 (0, 0))) := ⟨by (with_reducible repeat (first | refine blk_drewN ?_ _ | refine blk_drew ?_ | refine blk_alloc ?_ _)); refine blk_far ?_ (by have h_ := Kd.R_ne HO250.out BK233.out (by decide); intro e_; exact h_ (by rw [e_]; rfl)) _; (with_reducible repeat (first | refine blk_drewN ?_ _ | refine blk_drew ?_ | refine blk_alloc ?_ _)); exact BK233.out⟩
                have n3_ : Aside0 ((w89.setCell ⟨go37, ((ji33) : Int).toNat, none⟩ (.int .i64 (wrap64 ((wrap64 ((rd y248 (ji33)) + 1)) + (Int.tmod t253 20))))).heap[gb243]? = some (.cells #[.int .i64 (wrap64 (t227 + (Int.tmod t240 20))), .int .i64 (wrap64 (t228 + (Int.tmod t241 20))), .int .i64 (wrap64 (t229 + (Int.tmod t242 20)))] 25 (0, 0))) := ⟨by (with_reducible repeat (first | refine blk_drewN ?_ _ | refine blk_drew ?_ | refine blk_alloc ?_ _)); refine blk_far ?_ (by have h_ := Kd.R_ne HO250.out BK243.out (by decide); intro e_; exact h_ (by rw [e_]; rfl)) _; (with_reducible repeat (first | refine blk_drewN ?_ _ | refine blk_drew ?_ | refine blk_alloc ?_ _)); exact BK243.out⟩
                have n4_ : Aside0 (Below w.heap.size w (w89.setCell ⟨go37, ((ji33) : Int).toNat, none⟩ (.int .i64 (wrap64 ((wrap64 ((rd y248 (ji33)) + 1)) + (Int.tmod t253 20)))))) := ⟨by repeat (first | (with_reducible first | exact HB.out | apply below_alloc | apply pw_below_drewN | apply below_drew1 | refine below_set ?_ GB37.out | refine below_set ?_ GE233.out | refine below_set ?_ GE243.out) | exact HB.out)⟩
                (try clear HO_4)
                (try clear HO250)
                (try clear BK233)
                (try clear BK243)
                (try clear HB)
                generalize (w89.setCell ⟨go37, ((ji33) : Int).toNat, none⟩ (.int .i64 (wrap64 ((wrap64 ((rd y248 (ji33)) + 1)) + (Int.tmod t253 20))))) = w91 at n0_ n1_ n2_ n3_ n4_ ⊢
                have HO_4 := n0_
                have HO250 := n1_
                have BK233 := n2_
                have BK243 := n3_
                have HB := n4_
                clear n0_ n1_ n2_ n3_ n4_
                (first | (rw [drewN_self w91]; generalize hq_ : World.drewN w91 _ = w91; have n0_ : Aside0 (Kd.R (Kd.int .i64) 3 w91 w.heap.size (fun k_ => some k_ ≠ (.slice Ao11 t230.length co11 : Value).ownBlock) (.slice (some ⟨go37, 0, none⟩) y248.length co88) y254) := ⟨by rw [← hq_]; exact (by (with_reducible repeat (first | apply Kd.R_alloc | apply Kd.R_drewN | apply Kd.R_drew)); exact HO250.out)⟩; have n1_ : Aside0 (Kd.R (Kd.int .i64) 3 w91 w.heap.size (fun k_ => some k_ ≠ (.slice (some ⟨go37, 0, none⟩) y248.length co88 : Value).ownBlock) (.slice Ao11 t230.length co11) t230) := ⟨by rw [← hq_]; exact (by (with_reducible repeat (first | apply Kd.R_alloc | apply Kd.R_drewN | apply Kd.R_drew)); exact HO_4.out)⟩; have n2_ : Aside0 (w91.heap[gb233]? = some (.cells #[.int .i64 t227, .int .i64 t228, .int .i64 t229] 25 (0, 0))) := ⟨by rw [← hq_]; exact (by (with_reducible repeat (first | refine blk_drewN ?_ _ | refine blk_drew ?_ | refine blk_alloc ?_ _)); exact BK233.out)⟩; have n3_ : Aside0 (w91.heap[gb243]? = some (.cells #[.int .i64 (wrap64 (t227 + (Int.tmod t240 20))), .int .i64 (wrap64 (t228 + (Int.tmod t241 20))), .int .i64 (wrap64 (t229 + (Int.tmod t242 20)))] 25 (0, 0))) := ⟨by rw [← hq_]; exact (by (with_reducible repeat (first | refine blk_drewN ?_ _ | refine blk_drew ?_ | refine blk_alloc ?_ _)); exact BK243.out)⟩; have n4_ : Aside0 (Below w.heap.size w w91) := ⟨by rw [← hq_]; exact (by repeat (first | (with_reducible first | exact HB.out | apply below_alloc | apply pw_below_drewN | apply below_drew1 | refine below_set ?_ GE233.out | refine below_set ?_ GE243.out) | exact HB.out))⟩; clear HO250 HO_4 BK233 BK243 HB hq_; have HO250 := n0_; have HO_4 := n1_; have BK233 := n2_; have BK243 := n3_; have HB := n4_; clear n0_ n1_ n2_ n3_ n4_) | (have n0_ : Aside0 (Kd.R (Kd.int .i64) 3 w91 w.heap.size (fun k_ => some k_ ≠ (.slice Ao11 t230.length co11 : Value).ownBlock) (.slice (some ⟨go37, 0, none⟩) y248.length co88) y254) := ⟨(by (with_reducible repeat (first | apply Kd.R_alloc | apply Kd.R_drewN | apply Kd.R_drew)); exact HO250.out)⟩; have n1_ : Aside0 (Kd.R (Kd.int .i64) 3 w91 w.heap.size (fun k_ => some k_ ≠ (.slice (some ⟨go37, 0, none⟩) y248.length co88 : Value).ownBlock) (.slice Ao11 t230.length co11) t230) := ⟨(by (with_reducible repeat (first | apply Kd.R_alloc | apply Kd.R_drewN | apply Kd.R_drew)); exact HO_4.out)⟩; have n2_ : Aside0 (w91.heap[gb233]? = some (.cells #[.int .i64 t227, .int .i64 t228, .int .i64 t229] 25 (0, 0))) := ⟨(by (with_reducible repeat (first | refine blk_drewN ?_ _ | refine blk_drew ?_ | refine blk_alloc ?_ _)); exact BK233.out)⟩; have n3_ : Aside0 (w91.heap[gb243]? = some (.cells #[.int .i64 (wrap64 (t227 + (Int.tmod t240 20))), .int .i64 (wrap64 (t228 + (Int.tmod t241 20))), .int .i64 (wrap64 (t229 + (Int.tmod t242 20)))] 25 (0, 0))) := ⟨(by (with_reducible repeat (first | refine blk_drewN ?_ _ | refine blk_drew ?_ | refine blk_alloc ?_ _)); exact BK243.out)⟩; have n4_ : Aside0 (Below w.heap.size w w91) := ⟨(by repeat (first | (with_reducible first | exact HB.out | apply below_alloc | apply pw_below_drewN | apply below_drew1 | refine below_set ?_ GE233.out | refine below_set ?_ GE243.out) | exact HB.out))⟩; clear HO250 HO_4 BK233 BK243 HB; have HO250 := n0_; have HO_4 := n1_; have BK233 := n2_; have BK243 := n3_; have HB := n4_; clear n0_ n1_ n2_ n3_ n4_))
                have hcz92_0 : w91.cell? ⟨gb233, 0, none⟩ = some (.int .i64 t227) := (blk_cell BK233.out 0).trans rfl
                have hcz92_1 : w91.cell? ⟨gb233, 1, none⟩ = some (.int .i64 t228) := (blk_cell BK233.out 1).trans rfl
                have hcz92_2 : w91.cell? ⟨gb233, 2, none⟩ = some (.int .i64 t229) := (blk_cell BK233.out 2).trans rfl
                have hfz92_0 := blk_frozen BK233.out 0
                have hfz92_1 := blk_frozen BK233.out 1
                have hfz92_2 := blk_frozen BK233.out 2
                try go_wp2_with (first | ((with_reducible refine gate_callee (f := 8) rfl ?_); refine goesL_ (some 95) rfl rfl Try.func8 (by kernel_rfl) rfl #[.agg #[.int .i64 t227, .int .i64 t228, .int .i64 t229], .slice (some ⟨go37, 0, none⟩) y254.length co88] rfl (by (try simp only [List.map_toArray, List.map_cons, List.map_nil]); first | done | (rw [show y254.length = y248.length from (Kd.R_reads' HO250.out).1.symm] <;> rfl) | rfl | (simp only [List.length_drop, List.length_take]; rfl)) ?_; (with_reducible refine (impl_RunTime.calls kj6 t227 t228 t229 _ _ y254 t255 _ ?side1 ?side2 A38.out).mono ?_); (case side1 => repeat (first | exact (Kd.R_reads' HO250.out).2.2 | (with_reducible refine Kd.C_alloc ?_ _) | (with_reducible refine Kd.C_drewN ?_ _) | (with_reducible refine Kd.C_drew ?_))); (case side2 => rw [show y254.length = y248.length from (Kd.R_reads' HO250.out).1.symm]; exact (Kd.R_reads' HO250.out).2.1); rintro e w93 ⟨rfl, hb⟩; refine ⟨_, rfl, ?_⟩; have n0_ := Aside0.mk (Kd.R_below (by (with_reducible repeat (first | apply Kd.R_alloc | apply Kd.R_drewN | apply Kd.R_drew)); exact HO_4.out) hb); have n1_ := Aside0.mk (Kd.R_below (by (with_reducible repeat (first | apply Kd.R_alloc | apply Kd.R_drewN | apply Kd.R_drew)); exact HO250.out) hb); have n2_ := Aside0.mk (blk_below (g := gb233) (o := .cells #[.int .i64 t227, .int .i64 t228, .int .i64 t229] 25 (0, 0)) (by (with_reducible repeat (first | refine blk_drewN ?_ _ | refine blk_drew ?_ | refine blk_alloc ?_ _)); exact BK233.out) hb); have n3_ := Aside0.mk (blk_below (g := gb243) (o := .cells #[.int .i64 (wrap64 (t227 + (Int.tmod t240 20))), .int .i64 (wrap64 (t228 + (Int.tmod t241 20))), .int .i64 (wrap64 (t229 + (Int.tmod t242 20)))] 25 (0, 0)) (by (with_reducible repeat (first | refine blk_drewN ?_ _ | refine blk_drew ?_ | refine blk_alloc ?_ _)); exact BK243.out) hb); have n4_ := Aside0.mk (below_step (by repeat (first | (with_reducible first | exact HB.out | apply below_alloc | apply pw_below_drewN | apply below_drew1 | refine below_set ?_ GE233.out | refine below_set ?_ GE243.out) | exact HB.out)) hb); clear HO_4; clear HO250; clear BK233; clear BK243; clear HB; have HO_4 := n0_; have HO250 := n1_; have BK233 := n2_; have BK243 := n3_; have HB := n4_; clear n0_ n1_ n2_ n3_ n4_; (try clear hb); (try clear hb2); (try clear hk); (try clear hi)) | ((with_reducible refine gate_callee (f := 10) rfl ?_); refine goesL_ (some 106) rfl rfl Try.func10 (by kernel_rfl) rfl #[.slice A0 l0.length c0, .int .i64 7] rfl (by (try simp only [List.map_toArray, List.map_cons, List.map_nil]); first | done | rfl | (simp only [List.length_drop, List.length_take]; rfl)) ?_; (with_reducible refine (laws_at.calls _ _ l0 7 t257 _ ?side1 ?side2 A63.out).mono ?_); (case side1 => repeat (first | exact (Kd.C_below HR0.out HB.out) | (with_reducible refine Kd.C_alloc ?_ _) | (with_reducible refine Kd.C_drewN ?_ _) | (with_reducible refine Kd.C_drew ?_))); (case side2 => exact HC0.out); rintro e w' ⟨rfl, ⟨nd, rfl⟩⟩; refine ⟨_, rfl, ?_⟩))
                (first | (rw [drewN_self w93]; generalize hq_ : World.drewN w93 _ = w93; have n0_ : Aside0 (Kd.R (Kd.int .i64) 3 w93 w.heap.size (fun k_ => some k_ ≠ (.slice Ao11 t230.length co11 : Value).ownBlock) (.slice (some ⟨go37, 0, none⟩) y248.length co88) y254) := ⟨by rw [← hq_]; exact (by (with_reducible repeat (first | apply Kd.R_alloc | apply Kd.R_drewN | apply Kd.R_drew)); exact HO250.out)⟩; have n1_ : Aside0 (Kd.R (Kd.int .i64) 3 w93 w.heap.size (fun k_ => some k_ ≠ (.slice (some ⟨go37, 0, none⟩) y248.length co88 : Value).ownBlock) (.slice Ao11 t230.length co11) t230) := ⟨by rw [← hq_]; exact (by (with_reducible repeat (first | apply Kd.R_alloc | apply Kd.R_drewN | apply Kd.R_drew)); exact HO_4.out)⟩; have n2_ : Aside0 (w93.heap[gb233]? = some (.cells #[.int .i64 t227, .int .i64 t228, .int .i64 t229] 25 (0, 0))) := ⟨by rw [← hq_]; exact (by (with_reducible repeat (first | refine blk_drewN ?_ _ | refine blk_drew ?_ | refine blk_alloc ?_ _)); exact BK233.out)⟩; have n3_ : Aside0 (w93.heap[gb243]? = some (.cells #[.int .i64 (wrap64 (t227 + (Int.tmod t240 20))), .int .i64 (wrap64 (t228 + (Int.tmod t241 20))), .int .i64 (wrap64 (t229 + (Int.tmod t242 20)))] 25 (0, 0))) := ⟨by rw [← hq_]; exact (by (with_reducible repeat (first | refine blk_drewN ?_ _ | refine blk_drew ?_ | refine blk_alloc ?_ _)); exact BK243.out)⟩; have n4_ : Aside0 (Below w.heap.size w w93) := ⟨by rw [← hq_]; exact (by repeat (first | (with_reducible first | exact HB.out | apply below_alloc | apply pw_below_drewN | apply below_drew1 | refine below_set ?_ GE233.out | refine below_set ?_ GE243.out) | exact HB.out))⟩; clear HO250 HO_4 BK233 BK243 HB hq_; have HO250 := n0_; have HO_4 := n1_; have BK233 := n2_; have BK243 := n3_; have HB := n4_; clear n0_ n1_ n2_ n3_ n4_) | (have n0_ : Aside0 (Kd.R (Kd.int .i64) 3 w93 w.heap.size (fun k_ => some k_ ≠ (.slice Ao11 t230.length co11 : Value).ownBlock) (.slice (some ⟨go37, 0, none⟩) y248.length co88) y254) := ⟨(by (with_reducible repeat (first | apply Kd.R_alloc | apply Kd.R_drewN | apply Kd.R_drew)); exact HO250.out)⟩; have n1_ : Aside0 (Kd.R (Kd.int .i64) 3 w93 w.heap.size (fun k_ => some k_ ≠ (.slice (some ⟨go37, 0, none⟩) y248.length co88 : Value).ownBlock) (.slice Ao11 t230.length co11) t230) := ⟨(by (with_reducible repeat (first | apply Kd.R_alloc | apply Kd.R_drewN | apply Kd.R_drew)); exact HO_4.out)⟩; have n2_ : Aside0 (w93.heap[gb233]? = some (.cells #[.int .i64 t227, .int .i64 t228, .int .i64 t229] 25 (0, 0))) := ⟨(by (with_reducible repeat (first | refine blk_drewN ?_ _ | refine blk_drew ?_ | refine blk_alloc ?_ _)); exact BK233.out)⟩; have n3_ : Aside0 (w93.heap[gb243]? = some (.cells #[.int .i64 (wrap64 (t227 + (Int.tmod t240 20))), .int .i64 (wrap64 (t228 + (Int.tmod t241 20))), .int .i64 (wrap64 (t229 + (Int.tmod t242 20)))] 25 (0, 0))) := ⟨(by (with_reducible repeat (first | refine blk_drewN ?_ _ | refine blk_drew ?_ | refine blk_alloc ?_ _)); exact BK243.out)⟩; have n4_ : Aside0 (Below w.heap.size w w93) := ⟨(by repeat (first | (with_reducible first | exact HB.out | apply below_alloc | apply pw_below_drewN | apply below_drew1 | refine below_set ?_ GE233.out | refine below_set ?_ GE243.out) | exact HB.out))⟩; clear HO250 HO_4 BK233 BK243 HB; have HO250 := n0_; have HO_4 := n1_; have BK233 := n2_; have BK243 := n3_; have HB := n4_; clear n0_ n1_ n2_ n3_ n4_))
                have n0_ := Aside0.mk (Kd.R_drew HO_4.out)
                have n1_ := Aside0.mk (Kd.R_drew HO250.out)
                have n2_ := Aside0.mk (blk_drew BK233.out)
                have n3_ := Aside0.mk (blk_drew BK243.out)
                have n4_ := Aside0.mk (below_drew1 HB.out)
                clear HO_4
                clear HO250
                clear BK233
                clear BK243
                clear HB
                have HO_4 := n0_
                have HO250 := n1_
                have BK233 := n2_
                have BK243 := n3_
                have HB := n4_
                clear n0_ n1_ n2_ n3_ n4_
                have q97 : ((ji68) : Int) ≤ ((t230.length : Int) : Int) := of_decide_eq_true (by first | (with_reducible assumption) | assumption)
                obtain ⟨i097, hi097, _, hsz97, _⟩ := info_parts info3
                have hroom97 : t230.length ≤ co11 := (Kd.R_reads' HO_4.out).2.1
                have hcut97 := cut_to (P := Try.prog) 26 3 .i64 Try.underlying26 hi097 Ao11 t230.length co11 (ji68) (of_decide_eq_true (by first | (with_reducible assumption) | assumption)) q97 hroom97
                have hy97 : y260.length = ((ji68) : Int).toNat := (by rw [Ny260.out, List.length_take]; omega)
                rw [← hy97] at hcut97
                have zq97 := Aside0.mk q97
                have zhroom97 := Aside0.mk hroom97
                have zhi097 := Aside0.mk hi097
                have zhsz97 := Aside0.mk hsz97
                have zhy97 := Aside0.mk hy97
                clear hy97 hsz97 hi097 hroom97 q97
                have q99 : ((ji68) : Int) ≤ ((t230.length : Int) : Int) := of_decide_eq_true (by first | (with_reducible assumption) | assumption)
                obtain ⟨i099, hi099, _, hsz99, _⟩ := info_parts info3
                have hroom99 : t230.length ≤ co11 := (Kd.R_reads' HO_4.out).2.1
                have q099 : (0 : Int) ≤ ((ji68) : Int) := of_decide_eq_true (by first | (with_reducible assumption) | assumption)
                have hcut99 := cut_from (P := Try.prog) 26 3 .i64 Try.underlying26 hi099 1 hsz99 Ao11 t230.length co11 (ji68) q099 q99
                obtain ⟨A99, hA99⟩ : ∃ A_, A_ = (if co11 = ((ji68) : Int).toNat then Ao11 else (Ao11 : Option Addr).map (·.add (((ji68) : Int).toNat * 1))) := ⟨_, rfl⟩
                obtain ⟨c99, hc99⟩ : ∃ c_, c_ = co11 - ((ji68) : Int).toNat := ⟨_, rfl⟩
                have hy99 : y265.length = t230.length - ((ji68) : Int).toNat := (by rw [Ny265.out, List.length_drop] <;> omega)
                rw [← hy99, ← hA99, ← hc99] at hcut99
                have zq99 := Aside0.mk q99
                have zq099 := Aside0.mk q099
                have zhroom99 := Aside0.mk hroom99
                have zhi099 := Aside0.mk hi099
                have zhsz99 := Aside0.mk hsz99
                have zhA99 := Aside0.mk hA99
                have zhc99 := Aside0.mk hc99
                have zhy99 := Aside0.mk hy99
                clear hy99 hc99 hA99 hsz99 hi099 hroom99 q099 q99
                refine start_ (n := 25) (S := fun w' => w'.cell? ⟨gb233, 0, none⟩ = some (.int .i64 t227) ∧ w'.cell? ⟨gb233, 1, none⟩ = some (.int .i64 t228) ∧ w'.cell? ⟨gb233, 2, none⟩ = some (.int .i64 t229)) (ds := []) #[false, false, false, false, false, false, false, false, false, false, false, false, false, false, false, false, false, false, false, false, false, false, false, false, false] (by kernel_rfl) rfl rfl ⟨(blk_cell BK233.out 0).trans rfl, (blk_cell BK233.out 1).trans rfl, (blk_cell BK233.out 2).trans rfl⟩ (fun hHeld => ?_); refine with_tabW laws_FnFaster.tab19 laws_FnFaster.bits19 (fun HT_ HW_ => ?_)
                generalize w93.drew = w94 at HO_4 HO250 BK233 BK243 HB hHeld ⊢
                refine pure_ (i := 1) (N := some 113) (v := ?_) (a' := ?_) #[false, true, false, false, false, false, false, false, false, false, false, false, false, false, false, false, false, false, false, false, false, false, false, false, false] rfl rfl (any_of HT_.out (by kernel_rfl)) (fun _ _ _ h => h) (Or.inl ⟨by rfl, ?_⟩) ?_ ?_
                rotate_left
                ·intro w'
                 go_simp
                 with_reducible rfl
                rotate_left
                ·simp only [Act.put, List.setIfInBounds_toArray, List.set_cons_zero, List.set_cons_succ, i64_w, i32_w]
                 rfl
                refine pure_ (i := 2) (N := some 114) (v := ?_) (a' := ?_) #[false, true, true, false, false, false, false, false, false, false, false, false, false, false, false, false, false, false, false, false, false, false, false, false, false] rfl rfl (any_of HT_.out (by kernel_rfl)) (fun _ _ _ h => h) (Or.inl ⟨by rfl, ?_⟩) ?_ ?_
                rotate_left
                ·intro w'
                 go_simp
                 with_reducible rfl
                rotate_left
                ·simp only [Act.put, List.setIfInBounds_toArray, List.set_cons_zero, List.set_cons_succ, i64_w, i32_w]
                 rfl
                refine pure_ (i := 4) (N := some 116) (v := ?_) (a' := ?_) #[false, true, true, false, true, false, false, false, false, false, false, false, false, false, false, false, false, false, false, false, false, false, false, false, false] rfl rfl (any_of HT_.out (by kernel_rfl)) (fun _ _ _ h => h) (Or.inl ⟨by rfl, ?_⟩) ?_ ?_
                rotate_left
                ·intro w'
                 go_simp
                 with_reducible rfl
                rotate_left
                ·simp only [Act.put, List.setIfInBounds_toArray, List.set_cons_zero, List.set_cons_succ, i64_w, i32_w]
                 rfl
                refine take_ (i := 0) (N := some 112) (v := ?_) (a' := ?_) #[true, true, true, false, true, false, false, false, false, false, false, false, false, false, false, false, false, false, false, false, false, false, false, false, false] rfl rfl (take_ofW HT_.out HW_.out (by kernel_rfl)) (fun _ _ _ h => h) (Or.inl ⟨by rfl, ?_⟩) hHeld ?_ ?_
                rotate_left
                ·rintro w' ⟨s0, s1, s2⟩
                 go_simp
                 with_reducible rfl
                rotate_left
                ·simp only [Act.put, List.setIfInBounds_toArray, List.set_cons_zero, List.set_cons_succ, i64_w, i32_w]
                 rfl
                refine one_ (i := 3) (N := some 115) #[true, true, true, true, true, false, false, false, false, false, false, false, false, false, false, false, false, false, false, false, false, false, false, false, false] rfl rfl (one_of HT_.out (by kernel_rfl)) (by decide) (fun K hK => ?_)
                refine goes_ Try.func11 (by kernel_rfl) rfl #[.agg #[.int .i64 t227, .int .i64 t228, .int .i64 t229], .slice Ao11 t230.length co11, .int .i64 ji68] (by rfl) rfl rfl (by (try simp only [List.map_toArray, List.map_cons, List.map_nil]); first | done | (simp only [hji68]; rfl) | rfl | (simp only [List.length_drop, List.length_take]; rfl)) ?_
                with_reducible refine (impl_WithStop.calls kj6 t227 t228 t229 _ _ t230 ji68 t258 _ ?side1 ?side2 A65.out).mono ?_
                (case side1 => repeat (first | exact (Kd.R_reads' HO_4.out).2.2 | (with_reducible refine Kd.C_alloc ?_ _) | (with_reducible refine Kd.C_drewN ?_ _) | (with_reducible refine Kd.C_drew ?_)))
                (case side2 => exact (Kd.R_reads' HO_4.out).2.1)
                rintro e w95 ⟨rfl, hb⟩
                refine ⟨_, rfl, ?_⟩
                have n0_ := Aside0.mk (Kd.R_below (by (with_reducible repeat (first | apply Kd.R_alloc | apply Kd.R_drewN | apply Kd.R_drew)); exact HO_4.out) hb)
                have n1_ := Aside0.mk (Kd.R_below (by (with_reducible repeat (first | apply Kd.R_alloc | apply Kd.R_drewN | apply Kd.R_drew)); exact HO250.out) hb)
                have n2_ := Aside0.mk (blk_below (g := gb233) (o := .cells #[.int .i64 t227, .int .i64 t228, .int .i64 t229] 25 (0, 0)) (by (with_reducible repeat (first | refine blk_drewN ?_ _ | refine blk_drew ?_ | refine blk_alloc ?_ _)); exact BK233.out) hb)
                have n3_ := Aside0.mk (blk_below (g := gb243) (o := .cells #[.int .i64 (wrap64 (t227 + (Int.tmod t240 20))), .int .i64 (wrap64 (t228 + (Int.tmod t241 20))), .int .i64 (wrap64 (t229 + (Int.tmod t242 20)))] 25 (0, 0)) (by (with_reducible repeat (first | refine blk_drewN ?_ _ | refine blk_drew ?_ | refine blk_alloc ?_ _)); exact BK243.out) hb)
                have n4_ := Aside0.mk (below_step (by repeat (first | (with_reducible first | exact HB.out | apply below_alloc | apply pw_below_drewN | apply below_drew1 | refine below_set ?_ GE233.out | refine below_set ?_ GE243.out) | exact HB.out)) hb)
                clear HO_4
                clear HO250
                clear BK233
                clear BK243
                clear HB
                have HO_4 := n0_
                have HO250 := n1_
                have BK233 := n2_
                have BK243 := n3_
                have HB := n4_
                clear n0_ n1_ n2_ n3_ n4_
                (try clear hb)
                (try clear hb2)
                (try clear hk)
                (try clear hi)
                refine hK.out _ _ ⟨(blk_cell BK233.out 0).trans rfl, (blk_cell BK233.out 1).trans rfl, (blk_cell BK233.out 2).trans rfl⟩ (fun hHeld => ?_)
                clear hK K
                refine norm_ (a' := ?_) ?_ ?_
                rotate_left
                ·show Act.put _ (some 115) _ = _
                 simp only [Act.put, List.setIfInBounds_toArray, List.set_cons_zero, List.set_cons_succ, i64_w, i32_w]
                 rfl
                refine pure_ (i := 5) (N := some 117) (v := ?_) (a' := ?_) #[true, true, true, true, true, true, false, false, false, false, false, false, false, false, false, false, false, false, false, false, false, false, false, false, false] rfl rfl (any_of HT_.out (by kernel_rfl)) (fun _ _ _ h => h) (Or.inl ⟨by rfl, ?_⟩) ?_ ?_
                rotate_left
                ·intro w'
                 go_simp
                 with_reducible rfl
                rotate_left
                ·simp only [Act.put, List.setIfInBounds_toArray, List.set_cons_zero, List.set_cons_succ, i64_w, i32_w]
                 rfl
                refine pure_ (i := 6) (N := some 118) (v := ?_) (a' := ?_) #[true, true, true, true, true, true, true, false, false, false, false, false, false, false, false, false, false, false, false, false, false, false, false, false, false] rfl rfl (any_of HT_.out (by kernel_rfl)) (fun _ _ _ h => h) (Or.inl ⟨by rfl, ?_⟩) ?_ ?_
                rotate_left
                ·intro w'
                 go_simp
                 with_reducible rfl
                rotate_left
                ·simp only [Act.put, List.setIfInBounds_toArray, List.set_cons_zero, List.set_cons_succ, i64_w, i32_w]
                 rfl
                refine pure_ (i := 8) (N := some 120) (v := ?_) (a' := ?_) #[true, true, true, true, true, true, true, false, true, false, false, false, false, false, false, false, false, false, false, false, false, false, false, false, false] rfl rfl (any_of HT_.out (by kernel_rfl)) (fun _ _ _ h => h) (Or.inl ⟨by rfl, ?_⟩) ?_ ?_
                rotate_left
                ·intro w'
                 go_simp
                 with_reducible rfl
                rotate_left
                ·simp only [Act.put, List.setIfInBounds_toArray, List.set_cons_zero, List.set_cons_succ, i64_w, i32_w]
                 rfl
                refine pure_ (i := 9) (N := some 121) (v := ?_) (a' := ?_) #[true, true, true, true, true, true, true, false, true, true, false, false, false, false, false, false, false, false, false, false, false, false, false, false, false] rfl rfl (any_of HT_.out (by kernel_rfl)) (fun _ _ _ h => h) (Or.inl ⟨by rfl, ?_⟩) ?_ ?_
                rotate_left
                ·intro w'
                 go_simp
                 with_reducible rfl
                rotate_left
                ·simp only [Act.put, List.setIfInBounds_toArray, List.set_cons_zero, List.set_cons_succ, i64_w, i32_w]
                 rfl
                refine pure_ (i := 12) (N := some 124) (v := ?_) (a' := ?_) #[true, true, true, true, true, true, true, false, true, true, false, false, true, false, false, false, false, false, false, false, false, false, false, false, false] rfl rfl (any_of HT_.out (by kernel_rfl)) (fun _ _ _ h => h) (Or.inl ⟨by rfl, ?_⟩) ?_ ?_
                rotate_left
                ·intro w'
                 go_simp
                 with_reducible rfl
                rotate_left
                ·simp only [Act.put, List.setIfInBounds_toArray, List.set_cons_zero, List.set_cons_succ, i64_w, i32_w]
                 rfl
                refine pure_ (i := 13) (N := some 125) (v := ?_) (a' := ?_) #[true, true, true, true, true, true, true, false, true, true, false, false, true, true, false, false, false, false, false, false, false, false, false, false, false] rfl rfl (any_of HT_.out (by kernel_rfl)) (fun _ _ _ h => h) (Or.inl ⟨by rfl, ?_⟩) ?_ ?_
                rotate_left
                ·intro w'
                 go_simp
                 with_reducible rfl
                rotate_left
                ·simp only [Act.put, List.setIfInBounds_toArray, List.set_cons_zero, List.set_cons_succ, i64_w, i32_w]
                 rfl
                refine pure_ (i := 14) (N := some 126) (v := ?_) (a' := ?_) #[true, true, true, true, true, true, true, false, true, true, false, false, true, true, true, false, false, false, false, false, false, false, false, false, false] rfl rfl (any_of HT_.out (by kernel_rfl)) (fun _ _ _ h => h) (Or.inl ⟨by rfl, ?_⟩) ?_ ?_
                rotate_left
                ·intro w'
                 go_simp
                 with_reducible rfl
                rotate_left
                ·simp only [Act.put, List.setIfInBounds_toArray, List.set_cons_zero, List.set_cons_succ, i64_w, i32_w]
                 rfl
                refine pure_ (i := 17) (N := some 129) (v := ?_) (a' := ?_) #[true, true, true, true, true, true, true, false, true, true, false, false, true, true, true, false, false, true, false, false, false, false, false, false, false] rfl rfl (any_of HT_.out (by kernel_rfl)) (fun _ _ _ h => h) (Or.inl ⟨by rfl, ?_⟩) ?_ ?_
                rotate_left
                ·intro w'
                 go_simp
                 with_reducible rfl
                rotate_left
                ·simp only [Act.put, List.setIfInBounds_toArray, List.set_cons_zero, List.set_cons_succ, i64_w, i32_w]
                 rfl
                refine pure_ (i := 18) (N := some 130) (v := ?_) (a' := ?_) #[true, true, true, true, true, true, true, false, true, true, false, false, true, true, true, false, false, true, true, false, false, false, false, false, false] rfl rfl (any_of HT_.out (by kernel_rfl)) (fun _ _ _ h => h) (Or.inl ⟨by rfl, ?_⟩) ?_ ?_
                rotate_left
                ·intro w'
                 go_simp
                 with_reducible rfl
                rotate_left
                ·simp only [Act.put, List.setIfInBounds_toArray, List.set_cons_zero, List.set_cons_succ, i64_w, i32_w]
                 rfl
                refine pure_ (i := 19) (N := some 131) (v := ?_) (a' := ?_) #[true, true, true, true, true, true, true, false, true, true, false, false, true, true, true, false, false, true, true, true, false, false, false, false, false] rfl rfl (any_of HT_.out (by kernel_rfl)) (fun _ _ _ h => h) (Or.inl ⟨by rfl, ?_⟩) ?_ ?_
                rotate_left
                ·intro w'
                 go_simp
                 with_reducible rfl
                rotate_left
                ·simp only [Act.put, List.setIfInBounds_toArray, List.set_cons_zero, List.set_cons_succ, i64_w, i32_w]
                 rfl
                refine take_ (i := 7) (N := some 119) (v := ?_) (a' := ?_) #[true, true, true, true, true, true, true, true, true, true, false, false, true, true, true, false, false, true, true, true, false, false, false, false, false] rfl rfl (take_ofW HT_.out HW_.out (by kernel_rfl)) (fun _ _ _ h => h) (Or.inl ⟨by rfl, ?_⟩) hHeld ?_ ?_
                rotate_left
                ·rintro w' ⟨s0, s1, s2⟩
                 go_simp
                 with_reducible rfl
                rotate_left
                ·simp only [Act.put, List.setIfInBounds_toArray, List.set_cons_zero, List.set_cons_succ, i64_w, i32_w]
                 rfl
                refine take_ (i := 11) (N := some 123) (v := ?_) (a' := ?_) #[true, true, true, true, true, true, true, true, true, true, false, true, true, true, true, false, false, true, true, true, false, false, false, false, false] rfl rfl (take_ofW HT_.out HW_.out (by kernel_rfl)) (fun _ _ _ h => h) (Or.inl ⟨by rfl, ?_⟩) hHeld ?_ ?_
                rotate_left
                ·rintro w' ⟨s0, s1, s2⟩
                 go_simp
                 with_reducible rfl
                rotate_left
                ·simp only [Act.put, List.setIfInBounds_toArray, List.set_cons_zero, List.set_cons_succ, i64_w, i32_w]
                 rfl
                refine take_ (i := 16) (N := some 128) (v := ?_) (a' := ?_) #[true, true, true, true, true, true, true, true, true, true, false, true, true, true, true, false, true, true, true, true, false, false, false, false, false] rfl rfl (take_ofW HT_.out HW_.out (by kernel_rfl)) (fun _ _ _ h => h) (Or.inl ⟨by rfl, ?_⟩) hHeld ?_ ?_
                rotate_left
                ·rintro w' ⟨s0, s1, s2⟩
                 go_simp
                 with_reducible rfl
                rotate_left
                ·simp only [Act.put, List.setIfInBounds_toArray, List.set_cons_zero, List.set_cons_succ, i64_w, i32_w]
                 rfl
                refine one_ (i := 10) (N := some 122) #[true, true, true, true, true, true, true, true, true, true, true, true, true, true, true, false, true, true, true, true, false, false, false, false, false] rfl rfl (one_of HT_.out (by kernel_rfl)) (by decide) (fun K hK => ?_)
                refine goes_ Try.func11 (by kernel_rfl) rfl #[.agg #[.int .i64 t227, .int .i64 t228, .int .i64 t229], .slice Ao11 t230.length co11, .int .i64 ji68] (by rfl) rfl rfl (by (try simp only [List.map_toArray, List.map_cons, List.map_nil]); first | done | (simp only [hji68]; rfl) | rfl | (simp only [List.length_drop, List.length_take]; rfl)) ?_
                with_reducible refine (impl_WithStop.calls kj6 t227 t228 t229 _ _ t230 ji68 t259 _ ?side1 ?side2 A67.out).mono ?_
                (case side1 => repeat (first | exact (Kd.R_reads' HO_4.out).2.2 | (with_reducible refine Kd.C_alloc ?_ _) | (with_reducible refine Kd.C_drewN ?_ _) | (with_reducible refine Kd.C_drew ?_)))
                (case side2 => exact (Kd.R_reads' HO_4.out).2.1)
                rintro e w96 ⟨rfl, hb⟩
                refine ⟨_, rfl, ?_⟩
                have n0_ := Aside0.mk (Kd.R_below (by (with_reducible repeat (first | apply Kd.R_alloc | apply Kd.R_drewN | apply Kd.R_drew)); exact HO_4.out) hb)
                have n1_ := Aside0.mk (Kd.R_below (by (with_reducible repeat (first | apply Kd.R_alloc | apply Kd.R_drewN | apply Kd.R_drew)); exact HO250.out) hb)
                have n2_ := Aside0.mk (blk_below (g := gb233) (o := .cells #[.int .i64 t227, .int .i64 t228, .int .i64 t229] 25 (0, 0)) (by (with_reducible repeat (first | refine blk_drewN ?_ _ | refine blk_drew ?_ | refine blk_alloc ?_ _)); exact BK233.out) hb)
                have n3_ := Aside0.mk (blk_below (g := gb243) (o := .cells #[.int .i64 (wrap64 (t227 + (Int.tmod t240 20))), .int .i64 (wrap64 (t228 + (Int.tmod t241 20))), .int .i64 (wrap64 (t229 + (Int.tmod t242 20)))] 25 (0, 0)) (by (with_reducible repeat (first | refine blk_drewN ?_ _ | refine blk_drew ?_ | refine blk_alloc ?_ _)); exact BK243.out) hb)
                have n4_ := Aside0.mk (below_step (by repeat (first | (with_reducible first | exact HB.out | apply below_alloc | apply pw_below_drewN | apply below_drew1 | refine below_set ?_ GE233.out | refine below_set ?_ GE243.out) | exact HB.out)) hb)
                clear HO_4
                clear HO250
                clear BK233
                clear BK243
                clear HB
                have HO_4 := n0_
                have HO250 := n1_
                have BK233 := n2_
                have BK243 := n3_
                have HB := n4_
                clear n0_ n1_ n2_ n3_ n4_
                (try clear hb)
                (try clear hb2)
                (try clear hk)
                (try clear hi)
                have q97 := zq97.out
                have hroom97 := zhroom97.out
                have hi097 := zhi097.out
                have hsz97 := zhsz97.out
                have hy97 := zhy97.out
                clear zq97 zhroom97 zhi097 zhsz97 zhy97
                have hC97 : Kd.C (Kd.int .i64) _ Ao11 t230.length t230 := (Kd.R_reads' HO_4.out).2.2
                have hr97 := Kd.C_take (m := ((ji68) : Int).toNat) hC97 (by omega)
                rw [← Ny260.out] at hr97
                have HR263 := Aside0.mk hr97
                have HC263 := Aside0.mk (show y260.length ≤ co11 from by omega)
                clear hr97 hC97 hroom97 hi097 hsz97
                have KY97 := Aside0.mk hy97
                clear hy97
                have KL97 := Aside0.mk (show ((ji68) : Int).toNat ≤ t230.length from by omega)
                replace q97 := eq_true q97
                refine hK.out _ _ ⟨(blk_cell BK233.out 0).trans rfl, (blk_cell BK233.out 1).trans rfl, (blk_cell BK233.out 2).trans rfl⟩ (fun hHeld => ?_)
                clear hK K
                refine norm_ (a' := ?_) ?_ ?_
                rotate_left
                ·show Act.put _ (some 122) _ = _
                 simp only [Act.put, List.setIfInBounds_toArray, List.set_cons_zero, List.set_cons_succ, i64_w, i32_w]
                 rfl
                refine one_ (i := 15) (N := some 127) #[true, true, true, true, true, true, true, true, true, true, true, true, true, true, true, true, true, true, true, true, false, false, false, false, false] rfl rfl (one_of HT_.out (by kernel_rfl)) (by decide) (fun K hK => ?_)
                refine goes_ Try.func8 (by kernel_rfl) rfl #[.agg #[.int .i64 t227, .int .i64 t228, .int .i64 t229], .slice Ao11 y260.length co11] (by rfl) rfl rfl (by (try simp only [List.map_toArray, List.map_cons, List.map_nil]); first | done | rfl | (simp only [List.length_drop, List.length_take]; rfl)) ?_
                with_reducible refine (impl_RunTime.calls kj6 t227 t228 t229 _ _ y260 t264 _ ?side1 ?side2 A71.out).mono ?_
                (case side1 => repeat (first | exact (by repeat (first | (with_reducible exact HR263.out) | (with_reducible refine Kd.C_alloc ?_ _) | (with_reducible refine Kd.C_drewN ?_ _) | (with_reducible refine Kd.C_drew ?_) | exact HR263.out)) | (with_reducible refine Kd.C_alloc ?_ _) | (with_reducible refine Kd.C_drewN ?_ _) | (with_reducible refine Kd.C_drew ?_)))
                (case side2 => exact HC263.out)
                rintro e w98 ⟨rfl, hb⟩
                refine ⟨_, rfl, ?_⟩
                have n0_ := Aside0.mk (Kd.R_below (by (with_reducible repeat (first | apply Kd.R_alloc | apply Kd.R_drewN | apply Kd.R_drew)); exact HO_4.out) hb)
                have n1_ := Aside0.mk (Kd.R_below (by (with_reducible repeat (first | apply Kd.R_alloc | apply Kd.R_drewN | apply Kd.R_drew)); exact HO250.out) hb)
                have n2_ := Aside0.mk (blk_below (g := gb233) (o := .cells #[.int .i64 t227, .int .i64 t228, .int .i64 t229] 25 (0, 0)) (by (with_reducible repeat (first | refine blk_drewN ?_ _ | refine blk_drew ?_ | refine blk_alloc ?_ _)); exact BK233.out) hb)
                have n3_ := Aside0.mk (blk_below (g := gb243) (o := .cells #[.int .i64 (wrap64 (t227 + (Int.tmod t240 20))), .int .i64 (wrap64 (t228 + (Int.tmod t241 20))), .int .i64 (wrap64 (t229 + (Int.tmod t242 20)))] 25 (0, 0)) (by (with_reducible repeat (first | refine blk_drewN ?_ _ | refine blk_drew ?_ | refine blk_alloc ?_ _)); exact BK243.out) hb)
                have n4_ := Aside0.mk (Kd.C_below (by repeat (first | (with_reducible exact HR263.out) | (with_reducible refine Kd.C_alloc ?_ _) | (with_reducible refine Kd.C_drewN ?_ _) | (with_reducible refine Kd.C_drew ?_) | exact HR263.out)) hb)
                have n5_ := Aside0.mk (below_step (by repeat (first | (with_reducible first | exact HB.out | apply below_alloc | apply pw_below_drewN | apply below_drew1 | refine below_set ?_ GE233.out | refine below_set ?_ GE243.out) | exact HB.out)) hb)
                clear HO_4
                clear HO250
                clear BK233
                clear BK243
                clear HR263
                clear HB
                have HO_4 := n0_
                have HO250 := n1_
                have BK233 := n2_
                have BK243 := n3_
                have HR263 := n4_
                have HB := n5_
                clear n0_ n1_ n2_ n3_ n4_ n5_
                (try clear hb)
                (try clear hb2)
                (try clear hk)
                (try clear hi)
                have q99 := zq99.out
                have q099 := zq099.out
                have hroom99 := zhroom99.out
                have hi099 := zhi099.out
                have hsz99 := zhsz99.out
                have hA99 := zhA99.out
                have hc99 := zhc99.out
                have hy99 := zhy99.out
                clear zq99 zq099 zhroom99 zhi099 zhsz99 zhA99 zhc99 zhy99
                have hC99 : Kd.C (Kd.int .i64) _ Ao11 t230.length t230 := (Kd.R_reads' HO_4.out).2.2
                have hr99 := Kd.C_drop (m := ((ji68) : Int).toNat) (c := co11) hC99 (by omega) hroom99
                rw [show (t230).drop ((ji68) : Int).toNat = y265 from Ny265.out.symm] at hr99
                replace hr99 : Kd.C (Kd.int .i64) _ A99 y265.length y265 := (by rw [hA99]; exact hr99)
                have HR268 := Aside0.mk hr99
                have HC268 := Aside0.mk (show y265.length ≤ c99 from by rw [hy99, hc99]; exact Nat.sub_le_sub_right hroom99 _)
                clear hr99 hC99 hroom99 hi099 hsz99 hc99
                have KY99 := Aside0.mk hy99
                have KA99 := Aside0.mk hA99
                clear hy99 hA99
                have KL99 := Aside0.mk (show ((ji68) : Int).toNat ≤ t230.length from by omega)
                replace q99 := eq_true q99
                refine hK.out _ _ ⟨(blk_cell BK233.out 0).trans rfl, (blk_cell BK233.out 1).trans rfl, (blk_cell BK233.out 2).trans rfl⟩ (fun hHeld => ?_)
                clear hK K
                refine norm_ (a' := ?_) ?_ ?_
                rotate_left
                ·show Act.put _ (some 127) _ = _
                 simp only [Act.put, List.setIfInBounds_toArray, List.set_cons_zero, List.set_cons_succ, i64_w, i32_w]
                 rfl
                refine one_ (i := 20) (N := some 132) #[true, true, true, true, true, true, true, true, true, true, true, true, true, true, true, true, true, true, true, true, true, false, false, false, false] rfl rfl (one_of HT_.out (by kernel_rfl)) (by decide) (fun K hK => ?_)
                refine goes_ Try.func8 (by kernel_rfl) rfl #[.agg #[.int .i64 t227, .int .i64 t228, .int .i64 t229], .slice A99 y265.length c99] (by rfl) rfl rfl (by (try simp only [List.map_toArray, List.map_cons, List.map_nil]); first | done | rfl | (simp only [List.length_drop, List.length_take]; rfl)) ?_
                with_reducible refine (impl_RunTime.calls kj6 t227 t228 t229 _ _ y265 t269 _ ?side1 ?side2 A74.out).mono ?_
                (case side1 => repeat (first | exact (by repeat (first | (with_reducible exact HR268.out) | (with_reducible refine Kd.C_alloc ?_ _) | (with_reducible refine Kd.C_drewN ?_ _) | (with_reducible refine Kd.C_drew ?_) | exact HR268.out)) | (with_reducible refine Kd.C_alloc ?_ _) | (with_reducible refine Kd.C_drewN ?_ _) | (with_reducible refine Kd.C_drew ?_)))
                (case side2 => exact HC268.out)
                rintro e w100 ⟨rfl, hb⟩
                refine ⟨_, rfl, ?_⟩
                have n0_ := Aside0.mk (Kd.R_below (by (with_reducible repeat (first | apply Kd.R_alloc | apply Kd.R_drewN | apply Kd.R_drew)); exact HO_4.out) hb)
                have n1_ := Aside0.mk (Kd.R_below (by (with_reducible repeat (first | apply Kd.R_alloc | apply Kd.R_drewN | apply Kd.R_drew)); exact HO250.out) hb)
                have n2_ := Aside0.mk (blk_below (g := gb233) (o := .cells #[.int .i64 t227, .int .i64 t228, .int .i64 t229] 25 (0, 0)) (by (with_reducible repeat (first | refine blk_drewN ?_ _ | refine blk_drew ?_ | refine blk_alloc ?_ _)); exact BK233.out) hb)
                have n3_ := Aside0.mk (blk_below (g := gb243) (o := .cells #[.int .i64 (wrap64 (t227 + (Int.tmod t240 20))), .int .i64 (wrap64 (t228 + (Int.tmod t241 20))), .int .i64 (wrap64 (t229 + (Int.tmod t242 20)))] 25 (0, 0)) (by (with_reducible repeat (first | refine blk_drewN ?_ _ | refine blk_drew ?_ | refine blk_alloc ?_ _)); exact BK243.out) hb)
                have n4_ := Aside0.mk (Kd.C_below (by repeat (first | (with_reducible exact HR263.out) | (with_reducible refine Kd.C_alloc ?_ _) | (with_reducible refine Kd.C_drewN ?_ _) | (with_reducible refine Kd.C_drew ?_) | exact HR263.out)) hb)
                have n5_ := Aside0.mk (Kd.C_below (by repeat (first | (with_reducible exact HR268.out) | (with_reducible refine Kd.C_alloc ?_ _) | (with_reducible refine Kd.C_drewN ?_ _) | (with_reducible refine Kd.C_drew ?_) | exact HR268.out)) hb)
                have n6_ := Aside0.mk (below_step (by repeat (first | (with_reducible first | exact HB.out | apply below_alloc | apply pw_below_drewN | apply below_drew1 | refine below_set ?_ GE233.out | refine below_set ?_ GE243.out) | exact HB.out)) hb)
                clear HO_4
                clear HO250
                clear BK233
                clear BK243
                clear HR263
                clear HR268
                clear HB
                have HO_4 := n0_
                have HO250 := n1_
                have BK233 := n2_
                have BK243 := n3_
                have HR263 := n4_
                have HR268 := n5_
                have HB := n6_
                clear n0_ n1_ n2_ n3_ n4_ n5_ n6_
                (try clear hb)
                (try clear hb2)
                (try clear hk)
                (try clear hi)
                refine hK.out _ _ ⟨(blk_cell BK233.out 0).trans rfl, (blk_cell BK233.out 1).trans rfl, (blk_cell BK233.out 2).trans rfl⟩ (fun hHeld => ?_)
                clear hK K
                refine norm_ (a' := ?_) ?_ ?_
                rotate_left
                ·show Act.put _ (some 132) _ = _
                 simp only [Act.put, List.setIfInBounds_toArray, List.set_cons_zero, List.set_cons_succ, i64_w, i32_w]
                 rfl
                refine pure_ (i := 21) (N := some 133) (v := ?_) (a' := ?_) #[true, true, true, true, true, true, true, true, true, true, true, true, true, true, true, true, true, true, true, true, true, true, false, false, false] rfl rfl (any_of HT_.out (by kernel_rfl)) (fun _ _ _ h => h) (Or.inl ⟨by rfl, ?_⟩) ?_ ?_
                rotate_left
                ·intro w'
                 go_simp
                 with_reducible rfl
                rotate_left
                ·simp only [Act.put, List.setIfInBounds_toArray, List.set_cons_zero, List.set_cons_succ, i64_w, i32_w]
                 rfl
                refine pure_ (i := 22) (N := some 134) (v := ?_) (a' := ?_) #[true, true, true, true, true, true, true, true, true, true, true, true, true, true, true, true, true, true, true, true, true, true, true, false, false] rfl rfl (any_of HT_.out (by kernel_rfl)) (fun _ _ _ h => h) (Or.inl ⟨by rfl, ?_⟩) ?_ ?_
                rotate_left
                ·intro w'
                 go_simp
                 with_reducible rfl
                rotate_left
                ·simp only [Act.put, List.setIfInBounds_toArray, List.set_cons_zero, List.set_cons_succ, i64_w, i32_w]
                 rfl
                refine pure_ (i := 23) (N := some 135) (v := ?_) (a' := ?_) #[true, true, true, true, true, true, true, true, true, true, true, true, true, true, true, true, true, true, true, true, true, true, true, true, false] rfl rfl (any_of HT_.out (by kernel_rfl)) (fun _ _ _ h => h) (Or.inl ⟨by rfl, ?_⟩) ?_ ?_
                rotate_left
                ·intro w'
                 go_simp
                 with_reducible rfl
                rotate_left
                ·simp only [Act.put, List.setIfInBounds_toArray, List.set_cons_zero, List.set_cons_succ, i64_w, i32_w]
                 rfl
                refine pure_ (i := 24) (N := some 2) (v := ?_) (a' := ?_) #[true, true, true, true, true, true, true, true, true, true, true, true, true, true, true, true, true, true, true, true, true, true, true, true, true] rfl rfl (any_of HT_.out (by kernel_rfl)) (fun _ _ _ h => h) (Or.inl ⟨by rfl, ?_⟩) ?_ ?_
                rotate_left
                ·intro w'
                 go_simp
                 with_reducible rfl
                rotate_left
                ·simp only [Act.put, List.setIfInBounds_toArray, List.set_cons_zero, List.set_cons_succ, i64_w, i32_w]
                 rfl
                refine done_ (done_of HT_.out (by kernel_rfl)) ?_
                try go_wp2
                go_ret
                exact ⟨by first | rfl | (simp [errW_none, errW_some] <;> rfl) | (simp only [← hji33, ← hji68]; first | rfl | (simp [errW_none, errW_some] <;> rfl)) | (simp [*, errW_none, errW_some] <;> rfl), by repeat (first | (with_reducible first | exact HB.out | apply below_alloc | apply pw_below_drewN | apply below_drew1 | refine below_set ?_ GE233.out | refine below_set ?_ GE243.out) | exact HB.out)⟩
               ·rw [if_neg c70] at H
                exact absurd H (by simp)
              ·rw [if_neg c69] at H
               exact absurd H (by simp)
             ·rw [if_neg c66] at H
              have c66b0 : decide (t234 ≤ t258) = false := decide_eq_false c66
              clear c66
              exact absurd (Option.some.inj H) (by decide)
         ·rw [if_neg c35] at H
          exact absurd H (by simp)
        ·rw [if_neg c34] at H
         exact absurd H (by simp)
      ·rw [if_neg c30] at H
       exact absurd H (by simp)

/-- THE ONE PURE STATEMENT of laws_FnFaster: yours. -/
def laws_FnFaster.Pure : Prop := ∀ (l0 : List Int), l0.length ≤ maxLen → l0.length * 1 ≤ 140737488351232 → (∀ x ∈ l0, (Lit.int .u8 x).wf = true) → ∃ k, laws_FnFaster.f k l0 = some true
theorem laws_FnFaster.walk (P : laws_FnFaster.Pure) (a0 : Option Addr) (len0 cap0 : Nat) (z0 : List Int) (w : World) (w0 : (a0 = none ∧ len0 = 0 ∧ cap0 = 0 ∧ z0 = []) ∨ ∃ x, a0 = some x ∧ len0 ≤ cap0 ∧ cap0 ≤ maxLen ∧ z0.length = cap0 ∧ (∀ i, i < z0.length → w.cell? (x.add i) = some (.int .u8 (z0.getD i 0))) ∧ ∀ n ∈ z0, (Lit.int .u8 n).wf = true) (y0 : len0 * 1 ≤ 140737488351232) :
  Calls Try.prog 3 #[.slice a0 len0 cap0] w fun e w' => e = .returned (.bool true) ∧ Below w.heap.size w w' := by
 obtain ⟨l0, rfl, hr0, hm0, hw0, hc0⟩ := ReadsInt.ofRowC w0
 obtain ⟨k, h⟩ := P l0 hm0 y0 hw0
 refine (laws_FnFaster.calls k _ _ l0 w (Kd.C_of_reads (d := (0 : Int)) (h1 := fun _ => rfl) hr0) hc0 h).mono ?_
 rintro e w' ⟨rfl, hd⟩
 exact ⟨rfl, hd⟩

end Go.Proofs.Ytmbonjljbienkaa.PFnFaster
