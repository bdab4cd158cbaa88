-- Written by a program of this session (wip/tools/fltprint.py: the kit's printer, taught more).
import Derived.Test.YtmbonjljbienkaaPFnRidex0
import Derived.Test.YtmbonjljbienkaaPFnRidex1
import Derived.Test.YtmbonjljbienkaaPFnRidex3
import Derived.Test.YtmbonjljbienkaaPFnRidex5
namespace Go.Proofs.Ytmbonjljbienkaa.PFnRide
open Go.RowKit Go.Proofs.YtmbonjljbienkaaW.PrintWords Go.Proofs.YtmbonjljbienkaaW.PrintLast Go.Proofs.YtmbonjljbienkaaW.PrintMore
attribute [local go_sem] run_fl binOp_feq binOp_fne binOp_flt binOp_fle binOp_fgt binOp_fge run_store_f64 run_conv_f64
attribute [local go_sem] max2_int min2_int max_two min_two max_three min_three max_four min_four   -- for this text's walks alone
set_option linter.unusedVariables false
set_option linter.unusedSimpArgs false

/-! ### laws_FnRide: function 4 -/
mutual
def laws_FnRide.l0 : Nat → List Int → List (S61) → Nat → Nat → List Nat → Int → Nat → Nat → Option (Bool)
 | 0, _, _, _, _, _, _, _, _ => none
 | k + 1, x0, x4, x5, x6, x7, x8, x255000, x255001 => (laws_at.f x0 1).bind fun t258 => (if x8 < (wrap64 (2 + (Int.tmod t258 9))) then ((laws_at.f x0 (wrap64 (x8 + 2))).bind fun t259 => (if fok .quo (fofint (wrap64 ((Int.tmod t259 64) - 30))) (4643211215818981376 : Nat) = true then (if x7.length < 17592186044416 then (laws_FnRide.l0 k x0 x4 x5 x6 (x7 ++ [fval .quo (fofint (wrap64 ((Int.tmod t259 64) - 30))) (4643211215818981376 : Nat)]) (wrap64 (x8 + 1)) x255000 x255001) else (none)) else (none))) else ((impl_Ride.f k x255000 x255001 x4 x5 x7 x6).bind fun t263 => ((laws_at.f x0 12).bind fun t266 => (if (wrap64 ((x7.length : Int) - 1)) = 0 then (none) else (if (t263.length : Int) = (x7.length : Int) then (if 0 ≤ (wrap64 ((wrap64 (1 + (Int.tmod t266 (wrap64 ((x7.length : Int) - 1))))) - 1)) then (if (wrap64 ((wrap64 (1 + (Int.tmod t266 (wrap64 ((x7.length : Int) - 1))))) - 1)) < (t263.length : Int) then (if 0 ≤ (wrap64 (1 + (Int.tmod t266 (wrap64 ((x7.length : Int) - 1))))) then (if (wrap64 (1 + (Int.tmod t266 (wrap64 ((x7.length : Int) - 1))))) ≤ (x7.length : Int) then ((impl_Ride.f k x255000 x255001 x4 (rdOf (0 : Nat) t263 (wrap64 ((wrap64 (1 + (Int.tmod t266 (wrap64 ((x7.length : Int) - 1))))) - 1))) (x7.drop ((wrap64 (1 + (Int.tmod t266 (wrap64 ((x7.length : Int) - 1))))) : Int).toNat) x6).bind fun t272 => ((impl_Ride.f k x255000 x255001 x4 x5 (x7.take ((wrap64 (1 + (Int.tmod t266 (wrap64 ((x7.length : Int) - 1))))) : Int).toNat) x6).bind fun t279 => (if (t272.length : Int) = (wrap64 ((x7.length : Int) - (wrap64 (1 + (Int.tmod t266 (wrap64 ((x7.length : Int) - 1))))))) then (laws_FnRide.j1 k x4 x5 x6 x7 t263 (wrap64 (1 + (Int.tmod t266 (wrap64 ((x7.length : Int) - 1))))) t272 t279 ((t279.length : Int) != (wrap64 (1 + (Int.tmod t266 (wrap64 ((x7.length : Int) - 1)))))) x255000 x255001) else (laws_FnRide.j1 k x4 x5 x6 x7 t263 (wrap64 (1 + (Int.tmod t266 (wrap64 ((x7.length : Int) - 1))))) t272 t279 true x255000 x255001)))) else (none)) else (none)) else (none)) else (none)) else (some false))))))
def laws_FnRide.j1 : Nat → List (S61) → Nat → Nat → List Nat → List Nat → Int → List Nat → List Nat → Bool → Nat → Nat → Option (Bool)
 | 0, _, _, _, _, _, _, _, _, _, _, _ => none
 | k + 1, x4, x5, x6, x7, x9, x10, x11, x12, x95, x255000, x255001 => if x95 = true then (some false) else (laws_FnRide.l1 k x4 x5 x6 x7 x9 x10 x11 x12 0 x255000 x255001)
def laws_FnRide.l1 : Nat → List (S61) → Nat → Nat → List Nat → List Nat → Int → List Nat → List Nat → Int → Nat → Nat → Option (Bool)
 | 0, _, _, _, _, _, _, _, _, _, _, _ => none
 | k + 1, x4, x5, x6, x7, x9, x10, x11, x12, x13, x255000, x255001 => if x13 < (x9.length : Int) then (if x13 < x10 then (if 0 ≤ x13 then (if x13 < (x12.length : Int) then (laws_FnRide.j3 k x4 x5 x6 x7 x9 x10 x11 x12 x13 (rdOf (0 : Nat) x12 x13) x255000 x255001) else (none)) else (none)) else (if 0 ≤ (wrap64 (x13 - x10)) then (if (wrap64 (x13 - x10)) < (x11.length : Int) then (laws_FnRide.j3 k x4 x5 x6 x7 x9 x10 x11 x12 x13 (rdOf (0 : Nat) x11 (wrap64 (x13 - x10))) x255000 x255001) else (none)) else (none))) else (if 0 < (x7.length : Int) then ((impl_Pull.f k x255000 x255001 x4 x5 (rdOf (0 : Nat) x7 0) x6).bind fun t289 => (if 0 < (x9.length : Int) then ((laws_sameBits.f k t289 (rdOf (0 : Nat) x9 0)).bind fun t291 => (if t291 = true then ((spec_Pull.f k x255000 x255001 x4 x5 (rdOf (0 : Nat) x7 0) x6).bind fun t293 => ((laws_sameBits.f k t289 t293).bind fun t294 => (if t294 = true then ((impl_Pull.f k x255000 x255001 x4 x5 (rdOf (0 : Nat) x7 0) (0 : Nat)).bind fun t296 => (some (feq t296 x5))) else (some false)))) else (some false))) else (none))) else (none))
def laws_FnRide.j3 : Nat → List (S61) → Nat → Nat → List Nat → List Nat → Int → List Nat → List Nat → Int → Nat → Nat → Nat → Option (Bool)
 | 0, _, _, _, _, _, _, _, _, _, _, _, _ => none
 | k + 1, x4, x5, x6, x7, x9, x10, x11, x12, x13, x14, x255000, x255001 => if 0 ≤ x13 then (if x13 < (x9.length : Int) then ((laws_sameBits.f k (rdOf (0 : Nat) x9 x13) x14).bind fun t285 => (if t285 = true then ((impl_InRange.f (rdOf (0 : Nat) x9 x13) (0 : Nat) (4641240890982006784 : Nat)).bind fun t287 => (if t287 = true then (laws_FnRide.l1 k x4 x5 x6 x7 x9 x10 x11 x12 (wrap64 (x13 + 1)) x255000 x255001) else (some false))) else (some false))) else (none)) else (none)
end
def laws_FnRide.f (k : Nat) (l0 : List Int) : Option (Bool) := (laws_big.f l0).bind fun t246 => (if t246 = true then (some true) else ((spec_DrawRightPull.f k l0).bind fun bt247 => (laws_FnRide.l0 k l0 bt247.2.2.1 bt247.2.2.2.1 bt247.2.2.2.2 (([] : List Nat)) 0 bt247.1 bt247.2.1)))
theorem laws_FnRide.mono_l : ∀ k, (∀ y0 y1 y2 y3 y4 y5 y6 y7, LeO (laws_FnRide.l0 k y0 y1 y2 y3 y4 y5 y6 y7) (laws_FnRide.l0 (k + 1) y0 y1 y2 y3 y4 y5 y6 y7)) ∧ (∀ y0 y1 y2 y3 y4 y5 y6 y7 y8 y9 y10, LeO (laws_FnRide.j1 k y0 y1 y2 y3 y4 y5 y6 y7 y8 y9 y10) (laws_FnRide.j1 (k + 1) y0 y1 y2 y3 y4 y5 y6 y7 y8 y9 y10)) ∧ (∀ y0 y1 y2 y3 y4 y5 y6 y7 y8 y9 y10, LeO (laws_FnRide.l1 k y0 y1 y2 y3 y4 y5 y6 y7 y8 y9 y10) (laws_FnRide.l1 (k + 1) y0 y1 y2 y3 y4 y5 y6 y7 y8 y9 y10)) ∧ (∀ y0 y1 y2 y3 y4 y5 y6 y7 y8 y9 y10 y11, LeO (laws_FnRide.j3 k y0 y1 y2 y3 y4 y5 y6 y7 y8 y9 y10 y11) (laws_FnRide.j3 (k + 1) y0 y1 y2 y3 y4 y5 y6 y7 y8 y9 y10 y11))
 | 0 => ⟨fun _ _ _ _ _ _ _ _ r h => by simp [laws_FnRide.l0] at h, fun _ _ _ _ _ _ _ _ _ _ _ r h => by simp [laws_FnRide.j1] at h, fun _ _ _ _ _ _ _ _ _ _ _ r h => by simp [laws_FnRide.l1] at h, fun _ _ _ _ _ _ _ _ _ _ _ _ r h => by simp [laws_FnRide.j3] at h⟩
 | k + 1 => by
  obtain ⟨ih0, ih1, ih2, ih3⟩ := laws_FnRide.mono_l k
  refine ⟨?_, ?_, ?_, ?_⟩
  ·intro y0 y1 y2 y3 y4 y5 y6 y7
   unfold laws_FnRide.l0
   repeat' first
   | (with_reducible exact ih0 _ _ _ _ _ _ _ _)
   | (with_reducible exact ih1 _ _ _ _ _ _ _ _ _ _ _)
   | (with_reducible exact ih2 _ _ _ _ _ _ _ _ _ _ _)
   | (with_reducible exact ih3 _ _ _ _ _ _ _ _ _ _ _ _)
   | (with_reducible exact impl_Pull.mono _ _ _ _ _ _ _)
   | (with_reducible exact impl_Ride.mono _ _ _ _ _ _ _)
   | (with_reducible exact laws_sameBits.mono _ _ _)
   | (with_reducible exact spec_DrawRightPull.mono _ _)
   | (with_reducible exact spec_Pull.mono _ _ _ _ _ _ _)
   | (with_reducible exact LeO.refl _)
   | (with_reducible exact LeO.none _)
   | (with_reducible refine LeO.ite ?_ ?_)
   | (with_reducible refine LeO.bind ?_ (fun _ => ?_))
   | exact ih0 _ _ _ _ _ _ _ _
   | exact ih1 _ _ _ _ _ _ _ _ _ _ _
   | exact ih2 _ _ _ _ _ _ _ _ _ _ _
   | exact ih3 _ _ _ _ _ _ _ _ _ _ _ _
   | exact impl_Pull.mono _ _ _ _ _ _ _
   | exact impl_Ride.mono _ _ _ _ _ _ _
   | exact laws_sameBits.mono _ _ _
   | exact spec_DrawRightPull.mono _ _
   | exact spec_Pull.mono _ _ _ _ _ _ _
   | exact LeO.none _
   | refine LeO.ite ?_ ?_
   | refine LeO.bind ?_ (fun _ => ?_)
  ·intro y0 y1 y2 y3 y4 y5 y6 y7 y8 y9 y10
   unfold laws_FnRide.j1
   repeat' first
   | (with_reducible exact ih0 _ _ _ _ _ _ _ _)
   | (with_reducible exact ih1 _ _ _ _ _ _ _ _ _ _ _)
   | (with_reducible exact ih2 _ _ _ _ _ _ _ _ _ _ _)
   | (with_reducible exact ih3 _ _ _ _ _ _ _ _ _ _ _ _)
   | (with_reducible exact impl_Pull.mono _ _ _ _ _ _ _)
   | (with_reducible exact impl_Ride.mono _ _ _ _ _ _ _)
   | (with_reducible exact laws_sameBits.mono _ _ _)
   | (with_reducible exact spec_DrawRightPull.mono _ _)
   | (with_reducible exact spec_Pull.mono _ _ _ _ _ _ _)
   | (with_reducible exact LeO.refl _)
   | (with_reducible exact LeO.none _)
   | (with_reducible refine LeO.ite ?_ ?_)
   | (with_reducible refine LeO.bind ?_ (fun _ => ?_))
   | exact ih0 _ _ _ _ _ _ _ _
   | exact ih1 _ _ _ _ _ _ _ _ _ _ _
   | exact ih2 _ _ _ _ _ _ _ _ _ _ _
   | exact ih3 _ _ _ _ _ _ _ _ _ _ _ _
   | exact impl_Pull.mono _ _ _ _ _ _ _
   | exact impl_Ride.mono _ _ _ _ _ _ _
   | exact laws_sameBits.mono _ _ _
   | exact spec_DrawRightPull.mono _ _
   | exact spec_Pull.mono _ _ _ _ _ _ _
   | exact LeO.none _
   | refine LeO.ite ?_ ?_
   | refine LeO.bind ?_ (fun _ => ?_)
  ·intro y0 y1 y2 y3 y4 y5 y6 y7 y8 y9 y10
   unfold laws_FnRide.l1
   repeat' first
   | (with_reducible exact ih0 _ _ _ _ _ _ _ _)
   | (with_reducible exact ih1 _ _ _ _ _ _ _ _ _ _ _)
   | (with_reducible exact ih2 _ _ _ _ _ _ _ _ _ _ _)
   | (with_reducible exact ih3 _ _ _ _ _ _ _ _ _ _ _ _)
   | (with_reducible exact impl_Pull.mono _ _ _ _ _ _ _)
   | (with_reducible exact impl_Ride.mono _ _ _ _ _ _ _)
   | (with_reducible exact laws_sameBits.mono _ _ _)
   | (with_reducible exact spec_DrawRightPull.mono _ _)
   | (with_reducible exact spec_Pull.mono _ _ _ _ _ _ _)
   | (with_reducible exact LeO.refl _)
   | (with_reducible exact LeO.none _)
   | (with_reducible refine LeO.ite ?_ ?_)
   | (with_reducible refine LeO.bind ?_ (fun _ => ?_))
   | exact ih0 _ _ _ _ _ _ _ _
   | exact ih1 _ _ _ _ _ _ _ _ _ _ _
   | exact ih2 _ _ _ _ _ _ _ _ _ _ _
   | exact ih3 _ _ _ _ _ _ _ _ _ _ _ _
   | exact impl_Pull.mono _ _ _ _ _ _ _
   | exact impl_Ride.mono _ _ _ _ _ _ _
   | exact laws_sameBits.mono _ _ _
   | exact spec_DrawRightPull.mono _ _
   | exact spec_Pull.mono _ _ _ _ _ _ _
   | exact LeO.none _
   | refine LeO.ite ?_ ?_
   | refine LeO.bind ?_ (fun _ => ?_)
  ·intro y0 y1 y2 y3 y4 y5 y6 y7 y8 y9 y10 y11
   unfold laws_FnRide.j3
   repeat' first
   | (with_reducible exact ih0 _ _ _ _ _ _ _ _)
   | (with_reducible exact ih1 _ _ _ _ _ _ _ _ _ _ _)
   | (with_reducible exact ih2 _ _ _ _ _ _ _ _ _ _ _)
   | (with_reducible exact ih3 _ _ _ _ _ _ _ _ _ _ _ _)
   | (with_reducible exact impl_Pull.mono _ _ _ _ _ _ _)
   | (with_reducible exact impl_Ride.mono _ _ _ _ _ _ _)
   | (with_reducible exact laws_sameBits.mono _ _ _)
   | (with_reducible exact spec_DrawRightPull.mono _ _)
   | (with_reducible exact spec_Pull.mono _ _ _ _ _ _ _)
   | (with_reducible exact LeO.refl _)
   | (with_reducible exact LeO.none _)
   | (with_reducible refine LeO.ite ?_ ?_)
   | (with_reducible refine LeO.bind ?_ (fun _ => ?_))
   | exact ih0 _ _ _ _ _ _ _ _
   | exact ih1 _ _ _ _ _ _ _ _ _ _ _
   | exact ih2 _ _ _ _ _ _ _ _ _ _ _
   | exact ih3 _ _ _ _ _ _ _ _ _ _ _ _
   | exact impl_Pull.mono _ _ _ _ _ _ _
   | exact impl_Ride.mono _ _ _ _ _ _ _
   | exact laws_sameBits.mono _ _ _
   | exact spec_DrawRightPull.mono _ _
   | exact spec_Pull.mono _ _ _ _ _ _ _
   | exact LeO.none _
   | refine LeO.ite ?_ ?_
   | refine LeO.bind ?_ (fun _ => ?_)
theorem laws_FnRide.mono : ∀ a0 k, LeO (laws_FnRide.f k a0) (laws_FnRide.f (k + 1) a0) := by
 intro a0 k
 obtain ⟨ih0, ih1, ih2, ih3⟩ := laws_FnRide.mono_l k
 unfold laws_FnRide.f
 repeat' first
   | (with_reducible exact ih0 _ _ _ _ _ _ _ _)
   | (with_reducible exact ih1 _ _ _ _ _ _ _ _ _ _ _)
   | (with_reducible exact ih2 _ _ _ _ _ _ _ _ _ _ _)
   | (with_reducible exact ih3 _ _ _ _ _ _ _ _ _ _ _ _)
   | (with_reducible exact impl_Pull.mono _ _ _ _ _ _ _)
   | (with_reducible exact impl_Ride.mono _ _ _ _ _ _ _)
   | (with_reducible exact laws_sameBits.mono _ _ _)
   | (with_reducible exact spec_DrawRightPull.mono _ _)
   | (with_reducible exact spec_Pull.mono _ _ _ _ _ _ _)
   | (with_reducible exact LeO.refl _)
   | (with_reducible exact LeO.none _)
   | (with_reducible refine LeO.ite ?_ ?_)
   | (with_reducible refine LeO.bind ?_ (fun _ => ?_))
   | exact ih0 _ _ _ _ _ _ _ _
   | exact ih1 _ _ _ _ _ _ _ _ _ _ _
   | exact ih2 _ _ _ _ _ _ _ _ _ _ _
   | exact ih3 _ _ _ _ _ _ _ _ _ _ _ _
   | exact impl_Pull.mono _ _ _ _ _ _ _
   | exact impl_Ride.mono _ _ _ _ _ _ _
   | exact laws_sameBits.mono _ _ _
   | exact spec_DrawRightPull.mono _ _
   | exact spec_Pull.mono _ _ _ _ _ _ _
   | exact LeO.none _
   | refine LeO.ite ?_ ?_
   | refine LeO.bind ?_ (fun _ => ?_)
def laws_FnRide.T13 : Bool × List (List Nat × List Nat) := (true, [([], []), ([], []), ([], []), ([], []), ([3], [3]), ([2, 4], [2, 4]), ([5], [5]), ([], []), ([], []), ([7, 8], [7, 8]), ([], []), ([0, 1, 6, 9, 10], [0, 1, 6, 9, 10]), ([11, 11, 0, 1, 2, 3, 4, 5, 6, 7, 8, 9, 10, 11], [11])])
def laws_FnRide.B13 : List Nat := [0, 0, 0, 0, 8, 28, 60, 0, 0, 384, 0, 2047, 4095]
theorem laws_FnRide.tab13 : rtab .any (opsOf Try.f4 13) = laws_FnRide.T13 := by kernel_rfl
theorem laws_FnRide.bits13 : waitsOk laws_FnRide.T13.2 laws_FnRide.B13 = true := by kernel_rfl
def laws_FnRide.T14 : Bool × List (List Nat × List Nat) := (true, [([], []), ([], []), ([], []), ([], []), ([], []), ([3, 4], [3, 4]), ([], []), ([0, 1, 2, 5, 6], [0, 1, 2, 5, 6]), ([7, 7, 0, 1, 2, 3, 4, 5, 6, 7], [7])])
def laws_FnRide.B14 : List Nat := [0, 0, 0, 0, 0, 24, 0, 127, 255]
theorem laws_FnRide.tab14 : rtab .any (opsOf Try.f4 14) = laws_FnRide.T14 := by kernel_rfl
theorem laws_FnRide.bits14 : waitsOk laws_FnRide.T14.2 laws_FnRide.B14 = true := by kernel_rfl
def laws_FnRide.T26 : Bool × List (List Nat × List Nat) := (true, [([], []), ([], []), ([], []), ([], []), ([3], [3]), ([4], [4]), ([], []), ([0, 1, 2, 5, 6], [0, 1, 2, 5, 6]), ([7, 7, 0, 1, 2, 3, 4, 5, 6, 7], [7])])
def laws_FnRide.B26 : List Nat := [0, 0, 0, 0, 8, 24, 0, 127, 255]
theorem laws_FnRide.tab26 : rtab .any (opsOf Try.f4 26) = laws_FnRide.T26 := by kernel_rfl
theorem laws_FnRide.bits26 : waitsOk laws_FnRide.T26.2 laws_FnRide.B26 = true := by kernel_rfl
def laws_FnRide.T27 : Bool × List (List Nat × List Nat) := (true, [([], []), ([], []), ([1], [1]), ([2], [2]), ([0, 3], [0, 3]), ([4, 4], [4]), ([5], [5]), ([5], [5]), ([5], [5]), ([5], [5]), ([5], [5]), ([10, 5], [5, 10]), ([11, 5], [5, 11]), ([5], [5]), ([7, 8, 9, 12, 13, 5, 5], [5, 7, 8, 9, 12, 13]), ([6, 14, 14, 5], [5, 6, 14]), ([5, 15], [5, 15]), ([16, 15], [16]), ([17], [17]), ([17], [17]), ([17], [17]), ([17], [17]), ([21, 17], [17, 21]), ([22, 17], [17, 22]), ([18, 19, 20, 23, 17, 17], [17, 18, 19, 20, 23]), ([17], [17]), ([24, 25, 17], [17, 24, 25]), ([17, 26], [17, 26]), ([27, 24, 0, 1, 2, 3, 4, 5, 6, 7, 8, 9, 10, 11, 12, 13, 14, 15, 16, 17, 18, 19, 20, 21, 22, 23, 24, 25, 26, 27], [27])])
def laws_FnRide.B27 : List Nat := [0, 0, 2, 6, 15, 31, 63, 63, 63, 63, 63, 1087, 3135, 63, 16319, 32767, 65535, 131071, 262143, 262143, 262143, 262143, 2359295, 6553599, 16777215, 262143, 67108863, 134217727, 268435455]
theorem laws_FnRide.tab27 : rtab .any (opsOf Try.f4 27) = laws_FnRide.T27 := by kernel_rfl
theorem laws_FnRide.bits27 : waitsOk laws_FnRide.T27.2 laws_FnRide.B27 = true := by kernel_rfl
set_option maxHeartbeats 8000000 in
set_option maxRecDepth 100000 in
theorem laws_FnRide.calls (k : Nat) (A0 : Option Addr) (c0 : Nat) (l0 : List Int) (w : World) (hr0 : Kd.C (Kd.int .u8) w A0 l0.length l0) (hc0 : l0.length ≤ c0) (h : laws_FnRide.f k l0 = some true) :
  Calls Try.prog 4 #[.slice A0 l0.length c0] w fun e w' => e = .returned (.bool true) ∧ Below w.heap.size w w' := by
 have hu35 := Try.underlying35
 have HR0 := Aside0.mk hr0
 have HC0 := Aside0.mk hc0
 clear hr0 hc0
 have HB := Aside0.mk (Below.refl w.heap.size w)
 have H : ((laws_big.f l0).bind fun t246 => (if t246 = true then (some true) else ((spec_DrawRightPull.f k l0).bind fun bt247 => (laws_FnRide.l0 k l0 bt247.2.2.1 bt247.2.2.2.1 bt247.2.2.2.2 (([] : List Nat)) 0 bt247.1 bt247.2.1)))) = some true := h
 clear h
 replace H := Option.bind_eq_some_iff.mp H
 obtain ⟨t246, A20, H⟩ := H
 replace H : (if t246 = true then (some true) else ((spec_DrawRightPull.f k l0).bind fun bt247 => (laws_FnRide.l0 k l0 bt247.2.2.1 bt247.2.2.2.1 bt247.2.2.2.2 (([] : List Nat)) 0 bt247.1 bt247.2.1))) = some true := H
 have A2 := Aside0.mk A20
 clear A20
 by_cases c3 : t246 = true
 ·subst c3
  have H1 : (some true) = some true := by (first | (rw [if_pos rfl] at H; exact H) | rfl)
  clear H
  have H := H1
  clear H1
  clear H
  go_enter Try.func4, Try.ntmps4
  go_wp2_with (first | ((with_reducible refine gate_callee (f := 6) rfl ?_); refine goesL_ (some 17) rfl rfl Try.func6 (by kernel_rfl) rfl #[.slice A0 l0.length c0] rfl (by (try simp only [List.map_toArray, List.map_cons, List.map_nil]); first | done | rfl | (simp only [List.length_drop, List.length_take]; rfl)) ?_; (with_reducible refine (laws_big.calls _ _ l0 true _ ?side1 ?side2 A2.out).mono ?_); (case side1 => repeat (first | exact HR0.out | (with_reducible refine Kd.C_alloc ?_ _) | (with_reducible refine Kd.C_drewN ?_ _) | (with_reducible refine Kd.C_drew ?_))); (case side2 => exact HC0.out); rintro e w' ⟨rfl, ⟨nd, rfl⟩⟩; refine ⟨_, rfl, ?_⟩))
  go_ret
  exact ⟨by first | rfl | (simp [errW_none, errW_some] <;> rfl) | (simp [*, errW_none, errW_some] <;> rfl), by repeat (first | (with_reducible first | exact HB.out | apply below_alloc | apply pw_below_drewN | apply below_drew1) | exact HB.out)⟩
 ·replace c3 := Bool.eq_false_iff.mpr c3
  subst c3
  have H1 : ((spec_DrawRightPull.f k l0).bind fun bt247 => (laws_FnRide.l0 k l0 bt247.2.2.1 bt247.2.2.2.1 bt247.2.2.2.2 (([] : List Nat)) 0 bt247.1 bt247.2.1)) = some true := by (first | (rw [if_neg (show ¬ (false = true) by decide)] at H; exact H) | rfl)
  clear H
  have H := H1
  clear H1
  replace H := Option.bind_eq_some_iff.mp H
  obtain ⟨⟨t247, t248, t249, t252, t253⟩, A40, H⟩ := H
  replace H : (laws_FnRide.l0 k l0 t249 t252 t253 (([] : List Nat)) 0 t247 t248) = some true := H
  have A4 := Aside0.mk A40
  clear A40
  obtain ⟨y255, hy255⟩ : ∃ y_ : List Nat, y_ = (([] : List Nat)) := ⟨_, rfl⟩
  replace H : (laws_FnRide.l0 k l0 t249 t252 t253 y255 0 t247 t248) = some true := by first | (rw [hy255]; with_reducible exact H) | (have H2_ := (Option.bind_some _ _).symm.trans H; rw [hy255]; with_reducible exact H2_) | (have H2_ := (Option.bind_some _ _).symm.trans H; with_reducible exact H2_) | with_reducible exact H | (rw [hy255]; exact H) | exact H
  have Ny255 := Aside0.mk hy255
  clear hy255
  have H' := Aside0.mk H
  clear H
  go_enter Try.func4, Try.ntmps4
  go_wp2_with (first | ((with_reducible refine gate_callee (f := 6) rfl ?_); refine goesL_ (some 17) rfl rfl Try.func6 (by kernel_rfl) rfl #[.slice A0 l0.length c0] rfl (by (try simp only [List.map_toArray, List.map_cons, List.map_nil]); first | done | rfl | (simp only [List.length_drop, List.length_take]; rfl)) ?_; (with_reducible refine (laws_big.calls _ _ l0 false _ ?side1 ?side2 A2.out).mono ?_); (case side1 => repeat (first | exact HR0.out | (with_reducible refine Kd.C_alloc ?_ _) | (with_reducible refine Kd.C_drewN ?_ _) | (with_reducible refine Kd.C_drew ?_))); (case side2 => exact HC0.out); rintro e w' ⟨rfl, ⟨nd, rfl⟩⟩; refine ⟨_, rfl, ?_⟩) | ((with_reducible refine gate_callee (f := 12) rfl ?_); refine goesL_ (some 20) rfl rfl Try.func12 (by kernel_rfl) rfl #[.slice A0 l0.length c0] rfl (by (try simp only [List.map_toArray, List.map_cons, List.map_nil]); first | done | rfl | (simp only [List.length_drop, List.length_take]; rfl)) ?_; (with_reducible refine (spec_DrawRightPull.calls k _ _ l0 t247 t248 t249 t252 t253 _ ?side1 ?side2 A4.out).mono ?_); (case side1 => repeat (first | exact HR0.out | (with_reducible refine Kd.C_alloc ?_ _) | (with_reducible refine Kd.C_drewN ?_ _) | (with_reducible refine Kd.C_drew ?_))); (case side2 => exact HC0.out); rintro e w5 ⟨v250, rfl, ho0, hb⟩; refine ⟨_, rfl, ?_⟩; have n0_ := Aside0.mk (Kd.R_lower ho0 (below_size (by repeat (first | (with_reducible first | exact HB.out | apply below_alloc | apply pw_below_drewN | apply below_drew1) | exact HB.out)))); have n1_ := Aside0.mk (below_step (by repeat (first | (with_reducible first | exact HB.out | apply below_alloc | apply pw_below_drewN | apply below_drew1) | exact HB.out)) hb); clear HB; have HO251 := n0_; have HB := n1_; clear n0_ n1_; (try clear hb); (try clear hb2); (try clear hk); (try clear hi); (try clear ho0)) | ((with_reducible refine gate_dst (N := 3) rfl ?_); (try (refine gate_guard (by rfl) ?_; dsimp only)); refine box_event ?hg (N := 3) ?hd (cs := #[.float .f64 (0 : Nat), .float .f64 (0 : Nat)]) (t := 35) ?hr ?_; (case hd => rfl); (case hg => rfl); (case hr => first | (go_simp; done) | (go_simp; rfl)); intro gb254 hg w6 hbox hb; have n0_ := Aside0.mk (Kd.R_below (by (with_reducible repeat (first | apply Kd.R_alloc | apply Kd.R_drewN | apply Kd.R_drew)); exact HO251.out) hb); have n1_ := Aside0.mk (below_step (by repeat (first | (with_reducible first | exact HB.out | apply below_alloc | apply pw_below_drewN | apply below_drew1) | exact HB.out)) hb); have n2_ := Aside0.mk (hbox); have n3_ := Aside0.mk ((by rw [hg]; exact (below_size (by repeat (first | (with_reducible first | exact HB.out | apply below_alloc | apply pw_below_drewN | apply below_drew1) | exact HB.out))) : w.heap.size ≤ gb254)); have n4_ := Aside0.mk ((by rw [hg]; exact (below_size (by repeat (first | (with_reducible first | exact HB.out | apply below_alloc | apply pw_below_drewN | apply below_drew1) | exact HB.out))) : w.heap.size ≤ gb254)); clear HO251; clear HB; have HO251 := n0_; have HB := n1_; have BK254 := n2_; have GW254 := n3_; have GE254 := n4_; clear n0_ n1_ n2_ n3_ n4_; clear hb hbox hg; have hcz7_0 : w6.cell? ⟨gb254, 0, none⟩ = some (.float .f64 (0 : Nat)) := (blk_cell BK254.out 0).trans rfl; have hcz7_1 : w6.cell? ⟨gb254, 1, none⟩ = some (.float .f64 (0 : Nat)) := (blk_cell BK254.out 1).trans rfl; have hfz7_0 := blk_frozen BK254.out 0; have hfz7_1 := blk_frozen BK254.out 1) | ((with_reducible refine gate_dst (N := 25) rfl ?_); (try (refine gate_guard (by rfl) ?_; dsimp only)); refine Kd.R_lit Kd.f64 _ 33 ?hg (N := 25) ?hd (xs := ([] : List Nat)) (inner := []) (ok := fun _ => True) (okp := fun _ => True) ?hr ?hp (fun _ hk => hk) trivial (Below.refl _ _) (Nat.le_refl _) (by simp) ?_; (case hd => rfl); (case hg => rfl); (case hr => first | (go_simp; done) | (go_simp; rfl)); (case hp => exact (Reps.none _ _)); intro v256 w8 ho9 hb hg_ hnew_; clear hg_ hnew_; (first | rw [← Ny255.out] at ho9 | (simp only [Int.reduceToNat] at ho9; rw [← Ny255.out] at ho9)); have n0_ := Aside0.mk (Kd.R_below (by (with_reducible repeat (first | apply Kd.R_alloc | apply Kd.R_drewN | apply Kd.R_drew)); exact (Kd.R_mono (Kd.R_far (p := ⟨gb254, 1, none⟩) (Kd.R_far (p := ⟨gb254, 0, none⟩) (Kd.R_types HO251.out BK254.out (by decide)) (fun _ hk => hk.2) (.float .f64 t247)) (fun _ hk => hk.2) (.float .f64 t248)) (fun _ h_ => h_.1))) hb); have n1_ := Aside0.mk (Kd.R_lower ho9 (below_size (by repeat (first | (with_reducible first | exact HB.out | apply below_alloc | apply pw_below_drewN | apply below_drew1 | refine below_set ?_ GE254.out) | exact HB.out)))); have n2_ := Aside0.mk (blk_below (g := gb254) (o := .cells #[.float .f64 t247, .float .f64 t248] 35 (0, 0)) (by (with_reducible repeat (first | refine blk_drewN ?_ _ | refine blk_drew ?_ | refine blk_alloc ?_ _)); refine blk_put (cs := #[.float .f64 t247, .float .f64 (0 : Nat)]) ?_ 1 _ rfl; (with_reducible repeat (first | refine blk_drewN ?_ _ | refine blk_drew ?_ | refine blk_alloc ?_ _)); refine blk_put (cs := #[.float .f64 (0 : Nat), .float .f64 (0 : Nat)]) ?_ 0 _ rfl; (with_reducible repeat (first | refine blk_drewN ?_ _ | refine blk_drew ?_ | refine blk_alloc ?_ _)); exact BK254.out) hb); have n3_ := Aside0.mk (below_step (by repeat (first | (with_reducible first | exact HB.out | apply below_alloc | apply pw_below_drewN | apply below_drew1 | refine below_set ?_ GE254.out) | exact HB.out)) hb); clear HO251; clear BK254; clear HB; have HO251 := n0_; have HO257 := n1_; have BK254 := n2_; have HB := n3_; clear n0_ n1_ n2_ n3_; clear hb ho9))
  go_loopg [7, 8] k (fun kq v7 v8 w' => ∃ (x7_1 : List Nat) (x8_1 : Int), v8 = .int .i64 x8_1 ∧ Aside0 (laws_FnRide.l0 kq l0 t249 t252 t253 x7_1 x8_1 t247 t248 = some true) ∧ Aside0 (kq ≤ k) ∧ Aside0 (Kd.R k61 61 w' w.heap.size (fun _ => True) v250 t249) ∧ Aside0 (Kd.R Kd.f64 33 w' w.heap.size (fun _ => True) v7 x7_1) ∧ Aside0 (w'.heap[gb254]? = some (.cells #[.float .f64 t247, .float .f64 t248] 35 (0, 0))) ∧ Aside0 (Below w.heap.size w w'))
  case atStart => exact ⟨(y255), (0), (by first | rfl | (simp; done) | (simp [*]; done)), H', ⟨Nat.le_refl _⟩, ⟨by (with_reducible repeat (first | apply Kd.R_alloc | apply Kd.R_drewN | apply Kd.R_drew)); exact HO251.out⟩, ⟨by (with_reducible repeat (first | apply Kd.R_alloc | apply Kd.R_drewN | apply Kd.R_drew)); exact HO257.out⟩, ⟨by (with_reducible repeat (first | refine blk_drewN ?_ _ | refine blk_drew ?_ | refine blk_alloc ?_ _)); exact BK254.out⟩, ⟨by repeat (first | (with_reducible first | exact HB.out | apply below_alloc | apply pw_below_drewN | apply below_drew1 | refine below_set ?_ GE254.out) | exact HB.out)⟩⟩
  case round =>
   clear H'
   try clear c1
   try clear p2
   try clear c3
   try clear c4
   try clear c6
   try clear hcz7_0
   try clear hcz7_1
   try clear hfz7_0
   try clear hfz7_1
   obtain ⟨x7_1, x8_1, rfl, HA, HK1, HO_4, HO_7, BK254, HB⟩ := hrel
   cases gk with
   | zero => exact absurd HA.out (by simp [laws_FnRide.l0])
   | succ k1 =>
    have H := HA.out
    clear HA
    simp only [laws_FnRide.l0] at H
    replace H := Option.bind_eq_some_iff.mp H
    obtain ⟨t258, A100, H⟩ := H
    replace H : (if x8_1 < (wrap64 (2 + (Int.tmod t258 9))) then ((laws_at.f l0 (wrap64 (x8_1 + 2))).bind fun t259 => (if fok .quo (fofint (wrap64 ((Int.tmod t259 64) - 30))) (4643211215818981376 : Nat) = true then (if x7_1.length < 17592186044416 then (laws_FnRide.l0 k1 l0 t249 t252 t253 (x7_1 ++ [fval .quo (fofint (wrap64 ((Int.tmod t259 64) - 30))) (4643211215818981376 : Nat)]) (wrap64 (x8_1 + 1)) t247 t248) else (none)) else (none))) else ((impl_Ride.f k1 t247 t248 t249 t252 x7_1 t253).bind fun t263 => ((laws_at.f l0 12).bind fun t266 => (if (wrap64 ((x7_1.length : Int) - 1)) = 0 then (none) else (if (t263.length : Int) = (x7_1.length : Int) then (if 0 ≤ (wrap64 ((wrap64 (1 + (Int.tmod t266 (wrap64 ((x7_1.length : Int) - 1))))) - 1)) then (if (wrap64 ((wrap64 (1 + (Int.tmod t266 (wrap64 ((x7_1.length : Int) - 1))))) - 1)) < (t263.length : Int) then (if 0 ≤ (wrap64 (1 + (Int.tmod t266 (wrap64 ((x7_1.length : Int) - 1))))) then (if (wrap64 (1 + (Int.tmod t266 (wrap64 ((x7_1.length : Int) - 1))))) ≤ (x7_1.length : Int) then ((impl_Ride.f k1 t247 t248 t249 (rdOf (0 : Nat) t263 (wrap64 ((wrap64 (1 + (Int.tmod t266 (wrap64 ((x7_1.length : Int) - 1))))) - 1))) (x7_1.drop ((wrap64 (1 + (Int.tmod t266 (wrap64 ((x7_1.length : Int) - 1))))) : Int).toNat) t253).bind fun t272 => ((impl_Ride.f k1 t247 t248 t249 t252 (x7_1.take ((wrap64 (1 + (Int.tmod t266 (wrap64 ((x7_1.length : Int) - 1))))) : Int).toNat) t253).bind fun t279 => (if (t272.length : Int) = (wrap64 ((x7_1.length : Int) - (wrap64 (1 + (Int.tmod t266 (wrap64 ((x7_1.length : Int) - 1))))))) then (laws_FnRide.j1 k1 t249 t252 t253 x7_1 t263 (wrap64 (1 + (Int.tmod t266 (wrap64 ((x7_1.length : Int) - 1))))) t272 t279 ((t279.length : Int) != (wrap64 (1 + (Int.tmod t266 (wrap64 ((x7_1.length : Int) - 1)))))) t247 t248) else (laws_FnRide.j1 k1 t249 t252 t253 x7_1 t263 (wrap64 (1 + (Int.tmod t266 (wrap64 ((x7_1.length : Int) - 1))))) t272 t279 true t247 t248)))) else (none)) else (none)) else (none)) else (none)) else (some false)))))) = some true := H
    have A10 := Aside0.mk A100
    clear A100
    by_cases c11 : x8_1 < (wrap64 (2 + (Int.tmod t258 9)))
    ·rw [if_pos c11] at H
     have c11b0 : decide (x8_1 < (wrap64 (2 + (Int.tmod t258 9)))) = true := decide_eq_true c11
     clear c11
     replace H := Option.bind_eq_some_iff.mp H
     obtain ⟨t259, A120, H⟩ := H
     replace H : (if fok .quo (fofint (wrap64 ((Int.tmod t259 64) - 30))) (4643211215818981376 : Nat) = true then (if x7_1.length < 17592186044416 then (laws_FnRide.l0 k1 l0 t249 t252 t253 (x7_1 ++ [fval .quo (fofint (wrap64 ((Int.tmod t259 64) - 30))) (4643211215818981376 : Nat)]) (wrap64 (x8_1 + 1)) t247 t248) else (none)) else (none)) = some true := H
     have A12 := Aside0.mk A120
     clear A120
     by_cases c13 : fok .quo (fofint (wrap64 ((Int.tmod t259 64) - 30))) (4643211215818981376 : Nat) = true
     ·rw [if_pos c13] at H
      have c13b0 := eq_true c13
      have c13b1 : decide (fok .quo (fofint (wrap64 ((Int.tmod t259 64) - 30))) (4643211215818981376 : Nat) = true) = true := decide_eq_true c13
      clear c13
      by_cases c14 : x7_1.length < 17592186044416
      ·rw [if_pos c14] at H
       have LMc14 := Aside0.mk c14
       clear c14
       obtain ⟨y260, hy260⟩ : ∃ y_ : List Nat, y_ = (x7_1 ++ [fval .quo (fofint (wrap64 ((Int.tmod t259 64) - 30))) (4643211215818981376 : Nat)]) := ⟨_, rfl⟩
       replace H : (laws_FnRide.l0 k1 l0 t249 t252 t253 y260 (wrap64 (x8_1 + 1)) t247 t248) = some true := by first | (rw [hy260]; with_reducible exact H) | (have H2_ := (Option.bind_some _ _).symm.trans H; rw [hy260]; with_reducible exact H2_) | (have H2_ := (Option.bind_some _ _).symm.trans H; with_reducible exact H2_) | with_reducible exact H | (rw [hy260]; exact H) | exact H
       have Ny260 := Aside0.mk hy260
       clear hy260
       have H' := Aside0.mk H
       clear H
       go_wp2_with (first | ((with_reducible refine gate_callee (f := 10) rfl ?_); refine goesL_ (some 28) rfl rfl Try.func10 (by kernel_rfl) rfl #[.slice A0 l0.length c0, .int .i64 1] rfl (by (try simp only [List.map_toArray, List.map_cons, List.map_nil]); first | done | rfl | (simp only [List.length_drop, List.length_take]; rfl)) ?_; (with_reducible refine (laws_at.calls _ _ l0 1 t258 _ ?side1 ?side2 A10.out).mono ?_); (case side1 => repeat (first | exact (Kd.C_below HR0.out HB.out) | (with_reducible refine Kd.C_alloc ?_ _) | (with_reducible refine Kd.C_drewN ?_ _) | (with_reducible refine Kd.C_drew ?_))); (case side2 => exact HC0.out); rintro e w' ⟨rfl, ⟨nd, rfl⟩⟩; refine ⟨_, rfl, ?_⟩) | ((with_reducible refine gate_callee (f := 10) rfl ?_); refine goesL_ (some 38) rfl rfl Try.func10 (by kernel_rfl) rfl #[.slice A0 l0.length c0, .int .i64 (wrap64 (x8_1 + 2))] rfl (by (try simp only [List.map_toArray, List.map_cons, List.map_nil]); first | done | rfl | (simp only [List.length_drop, List.length_take]; rfl)) ?_; (with_reducible refine (laws_at.calls _ _ l0 (wrap64 (x8_1 + 2)) t259 _ ?side1 ?side2 A12.out).mono ?_); (case side1 => repeat (first | exact (Kd.C_below HR0.out (by repeat (first | (with_reducible first | exact HB.out | apply below_alloc | apply pw_below_drewN | apply below_drew1 | refine below_set ?_ GE254.out) | exact HB.out))) | (with_reducible refine Kd.C_alloc ?_ _) | (with_reducible refine Kd.C_drewN ?_ _) | (with_reducible refine Kd.C_drew ?_))); (case side2 => exact HC0.out); rintro e w' ⟨rfl, ⟨nd, rfl⟩⟩; refine ⟨_, rfl, ?_⟩) | ((with_reducible refine gate_builtin (b := .append) (xs := #[.tmp 34, .tmp 43]) rfl ?_); (try (refine gate_guard (by rfl) ?_; dsimp only)); at_builtin; refine Kd.R_append Kd.f64 (w0 := w) w.heap.size rfl (.tmp 34) (.tmp 43) 39 33 (.float .f64 0) 8 rfl Try.underlying39 info33 rfl (by decide) (by omega) u7 x7_1 (fval .quo (fofint (wrap64 ((Int.tmod t259 64) - 30))) (4643211215818981376 : Nat)) [.float .f64 (fval .quo (fofint (wrap64 ((Int.tmod t259 64) - 30))) (4643211215818981376 : Nat))] (fun _ => True) (fun _ => False) rfl rfl ?aP (fun _ hk => hk.elim) ?aF ?aO ?aB ?aS ?aL ?_; (case aP => exact rfl); (case aB => exact (by repeat (first | (with_reducible first | exact HB.out | apply below_alloc | apply pw_below_drewN | apply below_drew1 | refine below_set ?_ GE254.out) | exact HB.out))); (case aF => exact (fun _ _ => trivial)); (case aO => exact (by (with_reducible repeat (first | apply Kd.R_alloc | apply Kd.R_drewN | apply Kd.R_drew)); exact HO_7.out)); (case aS => exact (below_size (by repeat (first | (with_reducible first | exact HB.out | apply below_alloc | apply pw_below_drewN | apply below_drew1 | refine below_set ?_ GE254.out) | exact HB.out)))); (case aL => have := LMc14.out; omega); intro v261 w15 ho hb hg hat; rw [← Ny260.out] at ho; have n0_ := Aside0.mk (Kd.R_over' (by (with_reducible repeat (first | apply Kd.R_alloc | apply Kd.R_drewN | apply Kd.R_drew)); exact HO_4.out) (Kd.R_typed (by (with_reducible repeat (first | apply Kd.R_alloc | apply Kd.R_drewN | apply Kd.R_drew)); exact HO_7.out)) (by decide) hg); have n1_ := Aside0.mk (blk_grown (g := gb254) (o := .cells #[.float .f64 t247, .float .f64 t248] 35 (0, 0)) (by (with_reducible repeat (first | refine blk_drewN ?_ _ | refine blk_drew ?_ | refine blk_alloc ?_ _)); exact BK254.out) hg (Kd.R_ne HO_7.out BK254.out (by decide))); have n2_ := Aside0.mk (hb); have n3_ := Aside0.mk (ho); clear HO_4; clear BK254; clear HB; clear HO_7; have HO_4 := n0_; have BK254 := n1_; have HB := n2_; have HO262 := n3_; clear n0_ n1_ n2_ n3_; clear ho hb hg hat))
       go_roundg k1
       case measure => have := HK1.out; omega
       case rel => exact ⟨(y260), (wrap64 (x8_1 + 1)), (by first | rfl | (simp; done) | (simp [*]; done)), H', ⟨by have := HK1.out; omega⟩, ⟨by (with_reducible repeat (first | apply Kd.R_alloc | apply Kd.R_drewN | apply Kd.R_drew)); exact HO_4.out⟩, ⟨by (with_reducible repeat (first | apply Kd.R_alloc | apply Kd.R_drewN | apply Kd.R_drew)); exact HO262.out⟩, ⟨by (with_reducible repeat (first | refine blk_drewN ?_ _ | refine blk_drew ?_ | refine blk_alloc ?_ _)); exact BK254.out⟩, ⟨by repeat (first | (with_reducible first | exact HB.out | apply below_alloc | apply pw_below_drewN | apply below_drew1 | refine below_set ?_ GE254.out) | exact HB.out)⟩⟩
      ·rw [if_neg c14] at H
       exact absurd H (by simp)
     ·rw [if_neg c13] at H
      exact absurd H (by simp)
    ·rw [if_neg c11] at H
     have c11b0 : decide (x8_1 < (wrap64 (2 + (Int.tmod t258 9)))) = false := decide_eq_false c11
     clear c11
     replace H := Option.bind_eq_some_iff.mp H
     obtain ⟨t263, A160, H⟩ := H
     replace H : ((laws_at.f l0 12).bind fun t266 => (if (wrap64 ((x7_1.length : Int) - 1)) = 0 then (none) else (if (t263.length : Int) = (x7_1.length : Int) then (if 0 ≤ (wrap64 ((wrap64 (1 + (Int.tmod t266 (wrap64 ((x7_1.length : Int) - 1))))) - 1)) then (if (wrap64 ((wrap64 (1 + (Int.tmod t266 (wrap64 ((x7_1.length : Int) - 1))))) - 1)) < (t263.length : Int) then (if 0 ≤ (wrap64 (1 + (Int.tmod t266 (wrap64 ((x7_1.length : Int) - 1))))) then (if (wrap64 (1 + (Int.tmod t266 (wrap64 ((x7_1.length : Int) - 1))))) ≤ (x7_1.length : Int) then ((impl_Ride.f k1 t247 t248 t249 (rdOf (0 : Nat) t263 (wrap64 ((wrap64 (1 + (Int.tmod t266 (wrap64 ((x7_1.length : Int) - 1))))) - 1))) (x7_1.drop ((wrap64 (1 + (Int.tmod t266 (wrap64 ((x7_1.length : Int) - 1))))) : Int).toNat) t253).bind fun t272 => ((impl_Ride.f k1 t247 t248 t249 t252 (x7_1.take ((wrap64 (1 + (Int.tmod t266 (wrap64 ((x7_1.length : Int) - 1))))) : Int).toNat) t253).bind fun t279 => (if (t272.length : Int) = (wrap64 ((x7_1.length : Int) - (wrap64 (1 + (Int.tmod t266 (wrap64 ((x7_1.length : Int) - 1))))))) then (laws_FnRide.j1 k1 t249 t252 t253 x7_1 t263 (wrap64 (1 + (Int.tmod t266 (wrap64 ((x7_1.length : Int) - 1))))) t272 t279 ((t279.length : Int) != (wrap64 (1 + (Int.tmod t266 (wrap64 ((x7_1.length : Int) - 1)))))) t247 t248) else (laws_FnRide.j1 k1 t249 t252 t253 x7_1 t263 (wrap64 (1 + (Int.tmod t266 (wrap64 ((x7_1.length : Int) - 1))))) t272 t279 true t247 t248)))) else (none)) else (none)) else (none)) else (none)) else (some false)))) = some true := H
     have A16 := Aside0.mk A160
     clear A160
     replace H := Option.bind_eq_some_iff.mp H
     obtain ⟨t266, A170, H⟩ := H
     replace H : (if (wrap64 ((x7_1.length : Int) - 1)) = 0 then (none) else (if (t263.length : Int) = (x7_1.length : Int) then (if 0 ≤ (wrap64 ((wrap64 (1 + (Int.tmod t266 (wrap64 ((x7_1.length : Int) - 1))))) - 1)) then (if (wrap64 ((wrap64 (1 + (Int.tmod t266 (wrap64 ((x7_1.length : Int) - 1))))) - 1)) < (t263.length : Int) then (if 0 ≤ (wrap64 (1 + (Int.tmod t266 (wrap64 ((x7_1.length : Int) - 1))))) then (if (wrap64 (1 + (Int.tmod t266 (wrap64 ((x7_1.length : Int) - 1))))) ≤ (x7_1.length : Int) then ((impl_Ride.f k1 t247 t248 t249 (rdOf (0 : Nat) t263 (wrap64 ((wrap64 (1 + (Int.tmod t266 (wrap64 ((x7_1.length : Int) - 1))))) - 1))) (x7_1.drop ((wrap64 (1 + (Int.tmod t266 (wrap64 ((x7_1.length : Int) - 1))))) : Int).toNat) t253).bind fun t272 => ((impl_Ride.f k1 t247 t248 t249 t252 (x7_1.take ((wrap64 (1 + (Int.tmod t266 (wrap64 ((x7_1.length : Int) - 1))))) : Int).toNat) t253).bind fun t279 => (if (t272.length : Int) = (wrap64 ((x7_1.length : Int) - (wrap64 (1 + (Int.tmod t266 (wrap64 ((x7_1.length : Int) - 1))))))) then (laws_FnRide.j1 k1 t249 t252 t253 x7_1 t263 (wrap64 (1 + (Int.tmod t266 (wrap64 ((x7_1.length : Int) - 1))))) t272 t279 ((t279.length : Int) != (wrap64 (1 + (Int.tmod t266 (wrap64 ((x7_1.length : Int) - 1)))))) t247 t248) else (laws_FnRide.j1 k1 t249 t252 t253 x7_1 t263 (wrap64 (1 + (Int.tmod t266 (wrap64 ((x7_1.length : Int) - 1))))) t272 t279 true t247 t248)))) else (none)) else (none)) else (none)) else (none)) else (some false))) = some true := H
     have A17 := Aside0.mk A170
     clear A170
     by_cases c18 : (wrap64 ((x7_1.length : Int) - 1)) = 0
     ·rw [if_pos c18] at H
      exact absurd H (by simp)
     ·rw [if_neg c18] at H
      have c18b0 : ((wrap64 ((x7_1.length : Int) - 1)) == 0) = false := beq_eq_false_iff_ne.mpr c18
      have c18b1 : ((wrap64 ((x7_1.length : Int) - 1)) != 0) = true := bne_iff_ne.mpr c18
      by_cases c19 : (t263.length : Int) = (x7_1.length : Int)
      ·rw [if_pos c19] at H
       have c19b0 : ((t263.length : Int) == (x7_1.length : Int)) = true := beq_iff_eq.mpr c19
       have c19b1 : ((t263.length : Int) != (x7_1.length : Int)) = false := bne_eq_false_iff_eq.mpr c19
       have c19b2 : (t263.length == x7_1.length) = true := by first | simpa using c19 | (simp at c19 ⊢; omega)
       clear c19
       obtain ⟨ji20, hji20⟩ : ∃ j_ : Int, (wrap64 ((wrap64 (1 + (Int.tmod t266 (wrap64 ((x7_1.length : Int) - 1))))) - 1)) = j_ := ⟨_, rfl⟩
       replace H : (if 0 ≤ (ji20) then (if (ji20) < (t263.length : Int) then (if 0 ≤ (wrap64 (1 + (Int.tmod t266 (wrap64 ((x7_1.length : Int) - 1))))) then (if (wrap64 (1 + (Int.tmod t266 (wrap64 ((x7_1.length : Int) - 1))))) ≤ (x7_1.length : Int) then ((impl_Ride.f k1 t247 t248 t249 (rdOf (0 : Nat) t263 (ji20)) (x7_1.drop ((wrap64 (1 + (Int.tmod t266 (wrap64 ((x7_1.length : Int) - 1))))) : Int).toNat) t253).bind fun t272 => ((impl_Ride.f k1 t247 t248 t249 t252 (x7_1.take ((wrap64 (1 + (Int.tmod t266 (wrap64 ((x7_1.length : Int) - 1))))) : Int).toNat) t253).bind fun t279 => (if (t272.length : Int) = (wrap64 ((x7_1.length : Int) - (wrap64 (1 + (Int.tmod t266 (wrap64 ((x7_1.length : Int) - 1))))))) then (laws_FnRide.j1 k1 t249 t252 t253 x7_1 t263 (wrap64 (1 + (Int.tmod t266 (wrap64 ((x7_1.length : Int) - 1))))) t272 t279 ((t279.length : Int) != (wrap64 (1 + (Int.tmod t266 (wrap64 ((x7_1.length : Int) - 1)))))) t247 t248) else (laws_FnRide.j1 k1 t249 t252 t253 x7_1 t263 (wrap64 (1 + (Int.tmod t266 (wrap64 ((x7_1.length : Int) - 1))))) t272 t279 true t247 t248)))) else (none)) else (none)) else (none)) else (none)) = some true := by first | (rw [hji20] at H; exact H) | (simp only [hji20] at H ⊢; exact H)
       (try rw [hji20] at A10)
       (try rw [hji20] at A16)
       (try rw [hji20] at A17)
       have hji20w : (IntKind.i64.wrap ((wrap64 (1 + (Int.tmod t266 (wrap64 ((x7_1.length : Int) - 1))))) - 1)) = ji20 := (i64_w _).trans hji20
       by_cases c21 : 0 ≤ (ji20)
       ·rw [if_pos c21] at H
        have c21b0 : decide (0 ≤ (ji20)) = true := decide_eq_true c21
        clear c21
        by_cases c22 : (ji20) < (t263.length : Int)
        ·rw [if_pos c22] at H
         have c22b0 : decide ((ji20) < (t263.length : Int)) = true := decide_eq_true c22
         clear c22
         obtain ⟨ji23, hji23⟩ : ∃ j_ : Int, (wrap64 (1 + (Int.tmod t266 (wrap64 ((x7_1.length : Int) - 1))))) = j_ := ⟨_, rfl⟩
         replace H : (if 0 ≤ (ji23) then (if (ji23) ≤ (x7_1.length : Int) then ((impl_Ride.f k1 t247 t248 t249 (rdOf (0 : Nat) t263 (ji20)) (x7_1.drop ((ji23) : Int).toNat) t253).bind fun t272 => ((impl_Ride.f k1 t247 t248 t249 t252 (x7_1.take ((ji23) : Int).toNat) t253).bind fun t279 => (if (t272.length : Int) = (wrap64 ((x7_1.length : Int) - (ji23))) then (laws_FnRide.j1 k1 t249 t252 t253 x7_1 t263 ji23 t272 t279 ((t279.length : Int) != (ji23)) t247 t248) else (laws_FnRide.j1 k1 t249 t252 t253 x7_1 t263 ji23 t272 t279 true t247 t248)))) else (none)) else (none)) = some true := by first | (rw [hji23] at H; exact H) | (simp only [hji23] at H ⊢; exact H)
         (try rw [hji23] at A10)
         (try rw [hji23] at A16)
         (try rw [hji23] at A17)
         have hji23w : (IntKind.i64.wrap (1 + (Int.tmod t266 (wrap64 ((x7_1.length : Int) - 1))))) = ji23 := (i64_w _).trans hji23
         have hji20v23 : (wrap64 (ji23 - 1)) = ji20 := by rw [← hji23]; exact hji20
         have hji20x23 : IntKind.i64.wrap (ji23 - 1) = ji20 := (i64_w _).trans hji20v23
         by_cases c24 : 0 ≤ (ji23)
         ·rw [if_pos c24] at H
          have c24b0 := eq_true c24
          have c24b1 : decide (0 ≤ (ji23)) = true := decide_eq_true c24
          clear c24
          by_cases c25 : (ji23) ≤ (x7_1.length : Int)
          ·rw [if_pos c25] at H
           have c25b0 := eq_true c25
           have c25b1 : decide ((ji23) ≤ (x7_1.length : Int)) = true := decide_eq_true c25
           clear c25
           obtain ⟨y268, hy268⟩ : ∃ y_ : List Nat, y_ = (x7_1.drop ((ji23) : Int).toNat) := ⟨_, rfl⟩
           replace H : ((impl_Ride.f k1 t247 t248 t249 (rdOf (0 : Nat) t263 (ji20)) y268 t253).bind fun t272 => ((impl_Ride.f k1 t247 t248 t249 t252 (x7_1.take ((ji23) : Int).toNat) t253).bind fun t279 => (if (t272.length : Int) = (wrap64 ((x7_1.length : Int) - (ji23))) then (laws_FnRide.j1 k1 t249 t252 t253 x7_1 t263 ji23 t272 t279 ((t279.length : Int) != (ji23)) t247 t248) else (laws_FnRide.j1 k1 t249 t252 t253 x7_1 t263 ji23 t272 t279 true t247 t248)))) = some true := by first | (rw [hy268]; with_reducible exact H) | (have H2_ := (Option.bind_some _ _).symm.trans H; rw [hy268]; with_reducible exact H2_) | (have H2_ := (Option.bind_some _ _).symm.trans H; with_reducible exact H2_) | with_reducible exact H | (rw [hy268]; exact H) | exact H
           have Ny268 := Aside0.mk hy268
           clear hy268
           replace H := Option.bind_eq_some_iff.mp H
           obtain ⟨t272, A260, H⟩ := H
           replace H : ((impl_Ride.f k1 t247 t248 t249 t252 (x7_1.take ((ji23) : Int).toNat) t253).bind fun t279 => (if (t272.length : Int) = (wrap64 ((x7_1.length : Int) - (ji23))) then (laws_FnRide.j1 k1 t249 t252 t253 x7_1 t263 ji23 t272 t279 ((t279.length : Int) != (ji23)) t247 t248) else (laws_FnRide.j1 k1 t249 t252 t253 x7_1 t263 ji23 t272 t279 true t247 t248))) = some true := H
           have A26 := Aside0.mk A260
           clear A260
           have c27b0 := eq_true (of_decide_eq_true (by first | (with_reducible assumption) | assumption) : 0 ≤ (ji23))
           have c28b0 := eq_true (of_decide_eq_true (by first | (with_reducible assumption) | assumption) : (ji23) ≤ (x7_1.length : Int))
           obtain ⟨y275, hy275⟩ : ∃ y_ : List Nat, y_ = (x7_1.take ((ji23) : Int).toNat) := ⟨_, rfl⟩
           replace H : ((impl_Ride.f k1 t247 t248 t249 t252 y275 t253).bind fun t279 => (if (t272.length : Int) = (wrap64 ((x7_1.length : Int) - (ji23))) then (laws_FnRide.j1 k1 t249 t252 t253 x7_1 t263 ji23 t272 t279 ((t279.length : Int) != (ji23)) t247 t248) else (laws_FnRide.j1 k1 t249 t252 t253 x7_1 t263 ji23 t272 t279 true t247 t248))) = some true := by first | (rw [hy275]; with_reducible exact H) | (have H2_ := (Option.bind_some _ _).symm.trans H; rw [hy275]; with_reducible exact H2_) | (have H2_ := (Option.bind_some _ _).symm.trans H; with_reducible exact H2_) | with_reducible exact H | (rw [hy275]; exact H) | exact H
           have Ny275 := Aside0.mk hy275
           clear hy275
           replace H := Option.bind_eq_some_iff.mp H
           obtain ⟨t279, A290, H⟩ := H
           replace H : (if (t272.length : Int) = (wrap64 ((x7_1.length : Int) - (ji23))) then (laws_FnRide.j1 k1 t249 t252 t253 x7_1 t263 ji23 t272 t279 ((t279.length : Int) != (ji23)) t247 t248) else (laws_FnRide.j1 k1 t249 t252 t253 x7_1 t263 ji23 t272 t279 true t247 t248)) = some true := H
           have A29 := Aside0.mk A290
           clear A290
           have HC30 := Aside0.mk H
           clear H
           try go_wp2_with (first | ((with_reducible refine gate_callee (f := 10) rfl ?_); refine goesL_ (some 28) rfl rfl Try.func10 (by kernel_rfl) rfl #[.slice A0 l0.length c0, .int .i64 1] rfl (by (try simp only [List.map_toArray, List.map_cons, List.map_nil]); first | done | rfl | (simp only [List.length_drop, List.length_take]; rfl)) ?_; (with_reducible refine (laws_at.calls _ _ l0 1 t258 _ ?side1 ?side2 A10.out).mono ?_); (case side1 => repeat (first | exact (Kd.C_below HR0.out HB.out) | (with_reducible refine Kd.C_alloc ?_ _) | (with_reducible refine Kd.C_drewN ?_ _) | (with_reducible refine Kd.C_drew ?_))); (case side2 => exact HC0.out); rintro e w' ⟨rfl, ⟨nd, rfl⟩⟩; refine ⟨_, rfl, ?_⟩; have hcz31_0 : wr.cell? ⟨gb254, 0, none⟩ = some (.float .f64 t247) := (blk_cell BK254.out 0).trans rfl; have hcz31_1 : wr.cell? ⟨gb254, 1, none⟩ = some (.float .f64 t248) := (blk_cell BK254.out 1).trans rfl; have hfz31_0 := blk_frozen BK254.out 0; have hfz31_1 := blk_frozen BK254.out 1; obtain ⟨Ao32, co32, eo32⟩ := Kd.R_slice HO_4.out; subst eo32; obtain ⟨Ao33, co33, eo33⟩ := Kd.R_slice HO_7.out; subst eo33) | ((with_reducible refine gate_callee (f := 13) rfl ?_); refine goesL_ (some 50) rfl rfl Try.func13 (by kernel_rfl) rfl #[.agg #[.float .f64 t247, .float .f64 t248], .slice Ao32 t249.length co32, .float .f64 t252, .slice Ao33 x7_1.length co33, .float .f64 t253] rfl (by (try simp only [List.map_toArray, List.map_cons, List.map_nil]); first | done | rfl | (simp only [List.length_drop, List.length_take]; rfl)) ?_; (with_reducible refine (impl_Ride.calls k1 t247 t248 _ _ t249 t252 _ _ x7_1 t253 t263 _ ?side1 ?side2 ?side3 ?side4 A16.out).mono ?_); (case side1 => repeat (first | exact (Kd.R_reads' HO_4.out).2.2 | (with_reducible refine Kd.C_alloc ?_ _) | (with_reducible refine Kd.C_drewN ?_ _) | (with_reducible refine Kd.C_drew ?_))); (case side2 => exact (Kd.R_reads' HO_4.out).2.1); (case side3 => repeat (first | exact (Kd.R_reads' HO_7.out).2.2 | (with_reducible refine Kd.C_alloc ?_ _) | (with_reducible refine Kd.C_drewN ?_ _) | (with_reducible refine Kd.C_drew ?_))); (case side4 => exact (Kd.R_reads' HO_7.out).2.1); rintro e w34 ⟨v264, rfl, ho0, hb⟩; refine ⟨_, rfl, ?_⟩; have n0_ := Aside0.mk (Kd.R_below (by (with_reducible repeat (first | apply Kd.R_alloc | apply Kd.R_drewN | apply Kd.R_drew)); exact HO_4.out) hb); have n1_ := Aside0.mk (Kd.R_elder' (by (with_reducible repeat (first | apply Kd.R_alloc | apply Kd.R_drewN | apply Kd.R_drew)); exact HO_7.out) (Kd.R_base ho0) hb); have n2_ := Aside0.mk (Kd.R_lower (Kd.R_new' ho0 (Kd.R_lt (by (with_reducible repeat (first | apply Kd.R_alloc | apply Kd.R_drewN | apply Kd.R_drew)); exact HO_7.out))) (below_size (by repeat (first | (with_reducible first | exact HB.out | apply below_alloc | apply pw_below_drewN | apply below_drew1 | refine below_set ?_ GE254.out) | exact HB.out)))); have n3_ := Aside0.mk (blk_below (g := gb254) (o := .cells #[.float .f64 t247, .float .f64 t248] 35 (0, 0)) (by (with_reducible repeat (first | refine blk_drewN ?_ _ | refine blk_drew ?_ | refine blk_alloc ?_ _)); exact BK254.out) hb); have n4_ := Aside0.mk (below_step (by repeat (first | (with_reducible first | exact HB.out | apply below_alloc | apply pw_below_drewN | apply below_drew1 | refine below_set ?_ GE254.out) | exact HB.out)) hb); clear HO_4; clear HO_7; clear BK254; clear HB; have HO_4 := n0_; have HO_7 := n1_; have HO265 := n2_; have BK254 := n3_; have HB := n4_; clear n0_ n1_ n2_ n3_ n4_; (try clear hb); (try clear hb2); (try clear hk); (try clear hi); (try clear ho0)) | ((with_reducible refine gate_callee (f := 10) rfl ?_); refine goesL_ (some 52) rfl rfl Try.func10 (by kernel_rfl) rfl #[.slice A0 l0.length c0, .int .i64 12] rfl (by (try simp only [List.map_toArray, List.map_cons, List.map_nil]); first | done | rfl | (simp only [List.length_drop, List.length_take]; rfl)) ?_; (with_reducible refine (laws_at.calls _ _ l0 12 t266 _ ?side1 ?side2 A17.out).mono ?_); (case side1 => repeat (first | exact (Kd.C_below HR0.out HB.out) | (with_reducible refine Kd.C_alloc ?_ _) | (with_reducible refine Kd.C_drewN ?_ _) | (with_reducible refine Kd.C_drew ?_))); (case side2 => exact HC0.out); rintro e w' ⟨rfl, ⟨nd, rfl⟩⟩; refine ⟨_, rfl, ?_⟩; obtain ⟨Ao35, co35, eo35⟩ := Kd.R_slice HO265.out; subst eo35))
           (first | (rw [drewN_self w34]; generalize hq_ : World.drewN w34 _ = w34; have n0_ : Aside0 (Kd.R Kd.f64 33 w34 w.heap.size (fun k_ => some k_ ≠ (.slice Ao33 x7_1.length co33 : Value).ownBlock) (.slice Ao35 t263.length co35) t263) := ⟨by rw [← hq_]; exact (by (with_reducible repeat (first | apply Kd.R_alloc | apply Kd.R_drewN | apply Kd.R_drew)); exact Kd.R_mono HO265.out (fun _ hk => hk.2))⟩; have n1_ : Aside0 (Kd.R k61 61 w34 w.heap.size (fun _ => True) (.slice Ao32 t249.length co32) t249) := ⟨by rw [← hq_]; exact (by (with_reducible repeat (first | apply Kd.R_alloc | apply Kd.R_drewN | apply Kd.R_drew)); exact HO_4.out)⟩; have n2_ : Aside0 (Kd.R Kd.f64 33 w34 w.heap.size (fun k_ => some k_ ≠ (.slice Ao35 t263.length co35 : Value).ownBlock) (.slice Ao33 x7_1.length co33) x7_1) := ⟨by rw [← hq_]; exact (by (with_reducible repeat (first | apply Kd.R_alloc | apply Kd.R_drewN | apply Kd.R_drew)); exact Kd.R_mono HO_7.out (fun _ hk => hk.2))⟩; have n3_ : Aside0 (w34.heap[gb254]? = some (.cells #[.float .f64 t247, .float .f64 t248] 35 (0, 0))) := ⟨by rw [← hq_]; exact (by (with_reducible repeat (first | refine blk_drewN ?_ _ | refine blk_drew ?_ | refine blk_alloc ?_ _)); exact BK254.out)⟩; have n4_ : Aside0 (Below w.heap.size w w34) := ⟨by rw [← hq_]; exact (by repeat (first | (with_reducible first | exact HB.out | apply below_alloc | apply pw_below_drewN | apply below_drew1 | refine below_set ?_ GE254.out) | exact HB.out))⟩; clear HO265 HO_4 HO_7 BK254 HB hq_; have HO265 := n0_; have HO_4 := n1_; have HO_7 := n2_; have BK254 := n3_; have HB := n4_; clear n0_ n1_ n2_ n3_ n4_) | (have n0_ : Aside0 (Kd.R Kd.f64 33 w34 w.heap.size (fun k_ => some k_ ≠ (.slice Ao33 x7_1.length co33 : Value).ownBlock) (.slice Ao35 t263.length co35) t263) := ⟨(by (with_reducible repeat (first | apply Kd.R_alloc | apply Kd.R_drewN | apply Kd.R_drew)); exact Kd.R_mono HO265.out (fun _ hk => hk.2))⟩; have n1_ : Aside0 (Kd.R k61 61 w34 w.heap.size (fun _ => True) (.slice Ao32 t249.length co32) t249) := ⟨(by (with_reducible repeat (first | apply Kd.R_alloc | apply Kd.R_drewN | apply Kd.R_drew)); exact HO_4.out)⟩; have n2_ : Aside0 (Kd.R Kd.f64 33 w34 w.heap.size (fun k_ => some k_ ≠ (.slice Ao35 t263.length co35 : Value).ownBlock) (.slice Ao33 x7_1.length co33) x7_1) := ⟨(by (with_reducible repeat (first | apply Kd.R_alloc | apply Kd.R_drewN | apply Kd.R_drew)); exact Kd.R_mono HO_7.out (fun _ hk => hk.2))⟩; have n3_ : Aside0 (w34.heap[gb254]? = some (.cells #[.float .f64 t247, .float .f64 t248] 35 (0, 0))) := ⟨(by (with_reducible repeat (first | refine blk_drewN ?_ _ | refine blk_drew ?_ | refine blk_alloc ?_ _)); exact BK254.out)⟩; have n4_ : Aside0 (Below w.heap.size w w34) := ⟨(by repeat (first | (with_reducible first | exact HB.out | apply below_alloc | apply pw_below_drewN | apply below_drew1 | refine below_set ?_ GE254.out) | exact HB.out))⟩; clear HO265 HO_4 HO_7 BK254 HB; have HO265 := n0_; have HO_4 := n1_; have HO_7 := n2_; have BK254 := n3_; have HB := n4_; clear n0_ n1_ n2_ n3_ n4_))
           have n0_ := Aside0.mk (Kd.R_drew HO_4.out)
           have n1_ := Aside0.mk (Kd.R_drew HO_7.out)
           have n2_ := Aside0.mk (Kd.R_drew HO265.out)
           have n3_ := Aside0.mk (blk_drew BK254.out)
           have n4_ := Aside0.mk (below_drew1 HB.out)
           clear HO_4
           clear HO_7
           clear HO265
           clear BK254
           clear HB
           have HO_4 := n0_
           have HO_7 := n1_
           have HO265 := n2_
           have BK254 := n3_
           have HB := n4_
           clear n0_ n1_ n2_ n3_ n4_
           have p267 : 0 ≤ ((ji20) : Int) := of_decide_eq_true (by first | (with_reducible assumption) | assumption)
           have q267 : (ji20) < (t263.length : Int) := of_decide_eq_true (by first | (with_reducible assumption) | assumption)
           obtain ⟨ad267, e267, hx267_0⟩ := Kd.at_f64 (Kd.R_reads' HO265.out).2.2 (ji20) p267 q267
           cases e267
           replace p267 := eq_true p267
           replace q267 := eq_true q267
           have q37 : ((ji23) : Int) ≤ ((x7_1.length : Int) : Int) := of_decide_eq_true (by first | (with_reducible assumption) | assumption)
           obtain ⟨i037, hi037, _, hsz37, _⟩ := info_parts info33
           have hroom37 : x7_1.length ≤ co33 := (Kd.R_reads' HO_7.out).2.1
           have hC37 : Kd.C Kd.f64 _ Ao33 x7_1.length x7_1 := (Kd.R_reads' HO_7.out).2.2
           have q037 : (0 : Int) ≤ ((ji23) : Int) := of_decide_eq_true (by first | (with_reducible assumption) | assumption)
           have hcut37 := cut_from (P := Try.prog) 39 33 .i64 Try.underlying39 hi037 1 hsz37 Ao33 x7_1.length co33 (ji23) q037 q37
           have hr37 := Kd.C_drop (m := ((ji23) : Int).toNat) (c := co33) hC37 (by omega) hroom37
           obtain ⟨A37, hA37⟩ : ∃ A_, A_ = (if co33 = ((ji23) : Int).toNat then Ao33 else (Ao33 : Option Addr).map (·.add (((ji23) : Int).toNat * 1))) := ⟨_, rfl⟩
           obtain ⟨c37, hc37⟩ : ∃ c_, c_ = co33 - ((ji23) : Int).toNat := ⟨_, rfl⟩
           have hy37 : y268.length = x7_1.length - ((ji23) : Int).toNat := (by rw [Ny268.out, List.length_drop] <;> omega)
           rw [show (x7_1).drop ((ji23) : Int).toNat = y268 from Ny268.out.symm] at hr37
           replace hr37 : Kd.C Kd.f64 _ A37 y268.length y268 := (by rw [hA37]; exact hr37)
           rw [← hy37, ← hA37, ← hc37] at hcut37
           have HR271 := Aside0.mk hr37
           have HC271 := Aside0.mk (show y268.length ≤ c37 from by rw [hy37, hc37]; exact Nat.sub_le_sub_right hroom37 _)
           clear hr37 hC37 hroom37 hi037 hsz37 hc37
           have KY37 := Aside0.mk hy37
           have KA37 := Aside0.mk hA37
           clear hy37 hA37
           have KL37 := Aside0.mk (show ((ji23) : Int).toNat ≤ x7_1.length from by omega)
           replace q37 := eq_true q37
           refine start_ (n := 13) (S := fun w' => w'.cell? ⟨gb254, 0, none⟩ = some (.float .f64 t247) ∧ w'.cell? ⟨gb254, 1, none⟩ = some (.float .f64 t248) ∧ w'.cell? (ad267.add ((ji20)).toNat) = some (.float .f64 (rdOf (0 : Nat) t263 (ji20)))) (ds := []) #[false, false, false, false, false, false, false, false, false, false, false, false, false] (by kernel_rfl) rfl rfl ⟨(blk_cell BK254.out 0).trans rfl, (blk_cell BK254.out 1).trans rfl, hx267_0⟩ (fun hHeld => ?_); refine with_tabW laws_FnRide.tab13 laws_FnRide.bits13 (fun HT_ HW_ => ?_)
           generalize w34.drew = w36 at HO_4 HO_7 HO265 BK254 HB HR271 hx267_0 hHeld ⊢
           refine pure_ (i := 1) (N := some 64) (v := ?_) (a' := ?_) #[false, true, false, false, false, false, false, false, false, false, false, false, false] rfl rfl (any_of HT_.out (by kernel_rfl)) (fun _ _ _ h => h) (Or.inl ⟨by rfl, ?_⟩) ?_ ?_
           rotate_left
           ·intro w'
            go_simp
            with_reducible rfl
           rotate_left
           ·simp only [Act.put, List.setIfInBounds_toArray, List.set_cons_zero, List.set_cons_succ, i64_w, i32_w]
            rfl
           refine pure_ (i := 2) (N := some 65) (v := ?_) (a' := ?_) #[false, true, true, false, false, false, false, false, false, false, false, false, false] rfl rfl (any_of HT_.out (by kernel_rfl)) (fun _ _ _ h => h) (Or.inl ⟨by rfl, ?_⟩) ?_ ?_
           rotate_left
           ·intro w'
            go_simp
            with_reducible rfl
           rotate_left
           ·simp only [Act.put, List.setIfInBounds_toArray, List.set_cons_zero, List.set_cons_succ, i64_w, i32_w]
            rfl
           refine pure_ (i := 3) (N := some 66) (v := ?_) (a' := ?_) #[false, true, true, true, false, false, false, false, false, false, false, false, false] rfl rfl (any_of HT_.out (by kernel_rfl)) (fun _ _ _ h => h) (Or.inl ⟨by rfl, ?_⟩) ?_ ?_
           rotate_left
           ·intro w'
            go_simp
            with_reducible rfl
           rotate_left
           ·simp only [Act.put, List.setIfInBounds_toArray, List.set_cons_zero, List.set_cons_succ, i64_w, i32_w]
            rfl
           refine pure_ (i := 4) (N := some 67) (v := ?_) (a' := ?_) #[false, true, true, true, true, false, false, false, false, false, false, false, false] rfl rfl (any_of HT_.out (by kernel_rfl)) (fun _ _ _ h => h) (Or.inl ⟨by rfl, ?_⟩) ?_ ?_
           rotate_left
           ·intro w'
            go_simp
            with_reducible rfl
           rotate_left
           ·simp only [Act.put, List.setIfInBounds_toArray, List.set_cons_zero, List.set_cons_succ, i64_w, i32_w]
            rfl
           refine pure_ (i := 5) (N := some 68) (v := ?_) (a' := ?_) #[false, true, true, true, true, true, false, false, false, false, false, false, false] rfl rfl (any_of HT_.out (by kernel_rfl)) (fun _ _ _ h => h) (Or.inl ⟨by rfl, ?_⟩) ?_ ?_
           rotate_left
           ·intro w'
            go_simp
            with_reducible rfl
           rotate_left
           ·simp only [Act.put, List.setIfInBounds_toArray, List.set_cons_zero, List.set_cons_succ, i64_w, i32_w]
            rfl
           refine pure_ (i := 7) (N := some 70) (v := ?_) (a' := ?_) #[false, true, true, true, true, true, false, true, false, false, false, false, false] rfl rfl (any_of HT_.out (by kernel_rfl)) (fun _ _ _ h => h) (Or.inl ⟨by rfl, ?_⟩) ?_ ?_
           rotate_left
           ·intro w'
            go_simp
            with_reducible rfl
           rotate_left
           ·simp only [Act.put, List.setIfInBounds_toArray, List.set_cons_zero, List.set_cons_succ, i64_w, i32_w]
            rfl
           refine pure_ (i := 8) (N := some 71) (v := ?_) (a' := ?_) #[false, true, true, true, true, true, false, true, true, false, false, false, false] rfl rfl (any_of HT_.out (by kernel_rfl)) (fun _ _ _ h => h) (Or.inl ⟨by rfl, ?_⟩) ?_ ?_
           rotate_left
           ·intro w'
            go_simp
            with_reducible rfl
           rotate_left
           ·simp only [Act.put, List.setIfInBounds_toArray, List.set_cons_zero, List.set_cons_succ, i64_w, i32_w]
            rfl
           refine pure_ (i := 9) (N := some 72) (v := ?_) (a' := ?_) #[false, true, true, true, true, true, false, true, true, true, false, false, false] rfl rfl (any_of HT_.out (by kernel_rfl)) (fun _ _ _ h => h) (Or.inl ⟨by rfl, ?_⟩) ?_ ?_
           rotate_left
           ·intro w'
            go_simp
            with_reducible rfl
           rotate_left
           ·simp only [Act.put, List.setIfInBounds_toArray, List.set_cons_zero, List.set_cons_succ, i64_w, i32_w]
            rfl
           refine pure_ (i := 10) (N := some 73) (v := ?_) (a' := ?_) #[false, true, true, true, true, true, false, true, true, true, true, false, false] rfl rfl (any_of HT_.out (by kernel_rfl)) (fun _ _ _ h => h) (Or.inl ⟨by rfl, ?_⟩) ?_ ?_
           rotate_left
           ·intro w'
            go_simp
            with_reducible rfl
           rotate_left
           ·simp only [Act.put, List.setIfInBounds_toArray, List.set_cons_zero, List.set_cons_succ, i64_w, i32_w]
            rfl
           refine take_ (i := 0) (N := some 63) (v := ?_) (a' := ?_) #[true, true, true, true, true, true, false, true, true, true, true, false, false] rfl rfl (take_ofW HT_.out HW_.out (by kernel_rfl)) (fun _ _ _ h => h) (Or.inl ⟨by rfl, ?_⟩) hHeld ?_ ?_
           rotate_left
           ·rintro w' ⟨s0, s1, s2⟩
            go_simp
            with_reducible rfl
           rotate_left
           ·simp only [Act.put, List.setIfInBounds_toArray, List.set_cons_zero, List.set_cons_succ, i64_w, i32_w]
            rfl
           refine take_ (i := 6) (N := some 69) (v := ?_) (a' := ?_) #[true, true, true, true, true, true, true, true, true, true, true, false, false] rfl rfl (take_ofW HT_.out HW_.out (by kernel_rfl)) (fun _ _ _ h => h) (Or.inl ⟨by rfl, ?_⟩) hHeld ?_ ?_
           rotate_left
           ·rintro w' ⟨s0, s1, s2⟩
            go_simp
            with_reducible rfl
           rotate_left
           ·simp only [Act.put, List.setIfInBounds_toArray, List.set_cons_zero, List.set_cons_succ, i64_w, i32_w]
            rfl
           refine one_ (i := 11) (N := some 74) #[true, true, true, true, true, true, true, true, true, true, true, true, false] rfl rfl (one_of HT_.out (by kernel_rfl)) (by decide) (fun K hK => ?_)
           refine goes_ Try.func13 (by kernel_rfl) rfl #[.agg #[.float .f64 t247, .float .f64 t248], .slice Ao32 t249.length co32, .float .f64 (rdOf (0 : Nat) t263 (ji20)), .slice A37 y268.length c37, .float .f64 t253] (by rfl) rfl rfl (by (try simp only [List.map_toArray, List.map_cons, List.map_nil]); first | done | (simp only [hji20]; rfl) | rfl | (simp only [List.length_drop, List.length_take]; rfl)) ?_
           with_reducible refine (impl_Ride.calls k1 t247 t248 _ _ t249 (rdOf (0 : Nat) t263 (ji20)) _ _ y268 t253 t272 _ ?side1 ?side2 ?side3 ?side4 A26.out).mono ?_
           (case side1 => repeat (first | exact (Kd.R_reads' HO_4.out).2.2 | (with_reducible refine Kd.C_alloc ?_ _) | (with_reducible refine Kd.C_drewN ?_ _) | (with_reducible refine Kd.C_drew ?_)))
           (case side2 => exact (Kd.R_reads' HO_4.out).2.1)
           (case side3 => repeat (first | exact (by repeat (first | (with_reducible exact HR271.out) | (with_reducible refine Kd.C_alloc ?_ _) | (with_reducible refine Kd.C_drewN ?_ _) | (with_reducible refine Kd.C_drew ?_) | exact HR271.out)) | (with_reducible refine Kd.C_alloc ?_ _) | (with_reducible refine Kd.C_drewN ?_ _) | (with_reducible refine Kd.C_drew ?_)))
           (case side4 => exact HC271.out)
           rintro e w38 ⟨v273, rfl, ho0, hb⟩
           have HS2_ := (hb.cell (World.block_lt_of_cell? _ _ (hHeld.2.2))).trans (hHeld.2.2)
           refine ⟨_, rfl, ?_⟩
           have n0_ := Aside0.mk (Kd.R_below (by (with_reducible repeat (first | apply Kd.R_alloc | apply Kd.R_drewN | apply Kd.R_drew)); exact HO_4.out) hb)
           have n1_ := Aside0.mk (Kd.R_elder' (by (with_reducible repeat (first | apply Kd.R_alloc | apply Kd.R_drewN | apply Kd.R_drew)); exact HO_7.out) (Kd.R_base ho0) hb)
           have n2_ := Aside0.mk (Kd.R_elder' (by (with_reducible repeat (first | apply Kd.R_alloc | apply Kd.R_drewN | apply Kd.R_drew)); exact HO265.out) (Kd.R_base ho0) hb)
           have n3_ := Aside0.mk (Kd.R_lower (Kd.R_new' (Kd.R_new' ho0 (Kd.R_lt (by (with_reducible repeat (first | apply Kd.R_alloc | apply Kd.R_drewN | apply Kd.R_drew)); exact HO_7.out))) (Kd.R_lt (by (with_reducible repeat (first | apply Kd.R_alloc | apply Kd.R_drewN | apply Kd.R_drew)); exact HO265.out))) (below_size (by repeat (first | (with_reducible first | exact HB.out | apply below_alloc | apply pw_below_drewN | apply below_drew1 | refine below_set ?_ GE254.out) | exact HB.out))))
           have n4_ := Aside0.mk (blk_below (g := gb254) (o := .cells #[.float .f64 t247, .float .f64 t248] 35 (0, 0)) (by (with_reducible repeat (first | refine blk_drewN ?_ _ | refine blk_drew ?_ | refine blk_alloc ?_ _)); exact BK254.out) hb)
           have n5_ := Aside0.mk (Kd.C_below (by (first | (with_reducible exact HR271.out) | (with_reducible exact Kd.C_drewN HR271.out _) | (with_reducible exact Kd.C_drew HR271.out) | skip); repeat (first | (with_reducible exact HR271.out) | (with_reducible refine Kd.C_alloc ?_ _) | (with_reducible refine Kd.C_drewN ?_ _) | (with_reducible refine Kd.C_drew ?_) | exact HR271.out)) hb)
           have n6_ := Aside0.mk (below_step (by repeat (first | (with_reducible first | exact HB.out | apply below_alloc | apply pw_below_drewN | apply below_drew1 | refine below_set ?_ GE254.out) | exact HB.out)) hb)
           clear HO_4
           clear HO_7
           clear HO265
           clear BK254
           clear HR271
           clear HB
           have HO_4 := n0_
           have HO_7 := n1_
           have HO265 := n2_
           have HO274 := n3_
           have BK254 := n4_
           have HR271 := n5_
           have HB := n6_
           clear n0_ n1_ n2_ n3_ n4_ n5_ n6_
           (try clear hb)
           (try clear hb2)
           (try clear hk)
           (try clear hi)
           (try clear ho0)
           refine hK.out _ _ ⟨(blk_cell BK254.out 0).trans rfl, (blk_cell BK254.out 1).trans rfl, HS2_⟩ (fun hHeld => ?_)
           clear hK K
           refine norm_ (a' := ?_) ?_ ?_
           rotate_left
           ·show Act.put _ (some 74) _ = _
            simp only [Act.put, List.setIfInBounds_toArray, List.set_cons_zero, List.set_cons_succ, i64_w, i32_w]
            rfl
           refine pure_ (i := 12) (N := some 11) (v := ?_) (a' := ?_) #[true, true, true, true, true, true, true, true, true, true, true, true, true] rfl rfl (any_of HT_.out (by kernel_rfl)) (fun _ _ _ h => h) (Or.inl ⟨by rfl, ?_⟩) ?_ ?_
           rotate_left
           ·intro w'
            go_simp
            with_reducible rfl
           rotate_left
           ·simp only [Act.put, List.setIfInBounds_toArray, List.set_cons_zero, List.set_cons_succ, i64_w, i32_w]
            rfl
           refine done_ (done_of HT_.out (by kernel_rfl)) ?_
           try go_wp2
           have n0_ := Aside0.mk (Kd.R_drew HO_4.out)
           have n1_ := Aside0.mk (Kd.R_drew HO_7.out)
           have n2_ := Aside0.mk (Kd.R_drew HO265.out)
           have n3_ := Aside0.mk (Kd.R_drew HO274.out)
           have n4_ := Aside0.mk (blk_drew BK254.out)
           have n5_ := Aside0.mk (Kd.C_drew HR271.out)
           have n6_ := Aside0.mk (below_drew1 HB.out)
           clear HO_4
           clear HO_7
           clear HO265
           clear HO274
           clear BK254
           clear HR271
           clear HB
           have HO_4 := n0_
           have HO_7 := n1_
           have HO265 := n2_
           have HO274 := n3_
           have BK254 := n4_
           have HR271 := n5_
           have HB := n6_
           clear n0_ n1_ n2_ n3_ n4_ n5_ n6_
           have q40 : ((ji23) : Int) ≤ ((x7_1.length : Int) : Int) := of_decide_eq_true (by first | (with_reducible assumption) | assumption)
           obtain ⟨i040, hi040, _, hsz40, _⟩ := info_parts info33
           have hroom40 : x7_1.length ≤ co33 := (Kd.R_reads' HO_7.out).2.1
           have hC40 : Kd.C Kd.f64 _ Ao33 x7_1.length x7_1 := (Kd.R_reads' HO_7.out).2.2
           have hcut40 := cut_to (P := Try.prog) 39 33 .i64 Try.underlying39 hi040 Ao33 x7_1.length co33 (ji23) (of_decide_eq_true (by first | (with_reducible assumption) | assumption)) q40 hroom40
           have hr40 := Kd.C_take (m := ((ji23) : Int).toNat) hC40 (by omega)
           have hy40 : y275.length = ((ji23) : Int).toNat := (by rw [Ny275.out, List.length_take]; omega)
           rw [← Ny275.out] at hr40
           rw [← hy40] at hcut40
           have HR278 := Aside0.mk hr40
           have HC278 := Aside0.mk (show y275.length ≤ co33 from by omega)
           clear hr40 hC40 hroom40 hi040 hsz40
           have KY40 := Aside0.mk hy40
           clear hy40
           have KL40 := Aside0.mk (show ((ji23) : Int).toNat ≤ x7_1.length from by omega)
           replace q40 := eq_true q40
           refine start_ (n := 9) (S := fun w' => w'.cell? ⟨gb254, 0, none⟩ = some (.float .f64 t247) ∧ w'.cell? ⟨gb254, 1, none⟩ = some (.float .f64 t248)) (ds := []) #[false, false, false, false, false, false, false, false, false] (by kernel_rfl) rfl rfl ⟨(blk_cell BK254.out 0).trans rfl, (blk_cell BK254.out 1).trans rfl⟩ (fun hHeld => ?_); refine with_tabW laws_FnRide.tab14 laws_FnRide.bits14 (fun HT_ HW_ => ?_)
           generalize w38.drew = w39 at HO_4 HO_7 HO265 HO274 BK254 HR271 HB HR278 hHeld ⊢
           refine pure_ (i := 1) (N := some 76) (v := ?_) (a' := ?_) #[false, true, false, false, false, false, false, false, false] rfl rfl (any_of HT_.out (by kernel_rfl)) (fun _ _ _ h => h) (Or.inl ⟨by rfl, ?_⟩) ?_ ?_
           rotate_left
           ·intro w'
            go_simp
            with_reducible rfl
           rotate_left
           ·simp only [Act.put, List.setIfInBounds_toArray, List.set_cons_zero, List.set_cons_succ, i64_w, i32_w]
            rfl
           refine pure_ (i := 2) (N := some 77) (v := ?_) (a' := ?_) #[false, true, true, false, false, false, false, false, false] rfl rfl (any_of HT_.out (by kernel_rfl)) (fun _ _ _ h => h) (Or.inl ⟨by rfl, ?_⟩) ?_ ?_
           rotate_left
           ·intro w'
            go_simp
            with_reducible rfl
           rotate_left
           ·simp only [Act.put, List.setIfInBounds_toArray, List.set_cons_zero, List.set_cons_succ, i64_w, i32_w]
            rfl
           refine pure_ (i := 3) (N := some 78) (v := ?_) (a' := ?_) #[false, true, true, true, false, false, false, false, false] rfl rfl (any_of HT_.out (by kernel_rfl)) (fun _ _ _ h => h) (Or.inl ⟨by rfl, ?_⟩) ?_ ?_
           rotate_left
           ·intro w'
            go_simp
            with_reducible rfl
           rotate_left
           ·simp only [Act.put, List.setIfInBounds_toArray, List.set_cons_zero, List.set_cons_succ, i64_w, i32_w]
            rfl
           refine pure_ (i := 4) (N := some 79) (v := ?_) (a' := ?_) #[false, true, true, true, true, false, false, false, false] rfl rfl (any_of HT_.out (by kernel_rfl)) (fun _ _ _ h => h) (Or.inl ⟨by rfl, ?_⟩) ?_ ?_
           rotate_left
           ·intro w'
            go_simp
            with_reducible rfl
           rotate_left
           ·simp only [Act.put, List.setIfInBounds_toArray, List.set_cons_zero, List.set_cons_succ, i64_w, i32_w]
            rfl
           refine pure_ (i := 5) (N := some 80) (v := ?_) (a' := ?_) #[false, true, true, true, true, true, false, false, false] rfl rfl (any_of HT_.out (by kernel_rfl)) (fun _ _ _ h => h) (Or.inl ⟨by rfl, ?_⟩) ?_ ?_
           rotate_left
           ·intro w'
            go_simp
            with_reducible rfl
           rotate_left
           ·simp only [Act.put, List.setIfInBounds_toArray, List.set_cons_zero, List.set_cons_succ, i64_w, i32_w]
            rfl
           refine pure_ (i := 6) (N := some 81) (v := ?_) (a' := ?_) #[false, true, true, true, true, true, true, false, false] rfl rfl (any_of HT_.out (by kernel_rfl)) (fun _ _ _ h => h) (Or.inl ⟨by rfl, ?_⟩) ?_ ?_
           rotate_left
           ·intro w'
            go_simp
            with_reducible rfl
           rotate_left
           ·simp only [Act.put, List.setIfInBounds_toArray, List.set_cons_zero, List.set_cons_succ, i64_w, i32_w]
            rfl
           refine take_ (i := 0) (N := some 75) (v := ?_) (a' := ?_) #[true, true, true, true, true, true, true, false, false] rfl rfl (take_ofW HT_.out HW_.out (by kernel_rfl)) (fun _ _ _ h => h) (Or.inl ⟨by rfl, ?_⟩) hHeld ?_ ?_
           rotate_left
           ·rintro w' ⟨s0, s1⟩
            go_simp
            with_reducible rfl
           rotate_left
           ·simp only [Act.put, List.setIfInBounds_toArray, List.set_cons_zero, List.set_cons_succ, i64_w, i32_w]
            rfl
           refine one_ (i := 7) (N := some 82) #[true, true, true, true, true, true, true, true, false] rfl rfl (one_of HT_.out (by kernel_rfl)) (by decide) (fun K hK => ?_)
           refine goes_ Try.func13 (by kernel_rfl) rfl #[.agg #[.float .f64 t247, .float .f64 t248], .slice Ao32 t249.length co32, .float .f64 t252, .slice Ao33 y275.length co33, .float .f64 t253] (by rfl) rfl rfl (by (try simp only [List.map_toArray, List.map_cons, List.map_nil]); first | done | rfl | (simp only [List.length_drop, List.length_take]; rfl)) ?_
           with_reducible refine (impl_Ride.calls k1 t247 t248 _ _ t249 t252 _ _ y275 t253 t279 _ ?side1 ?side2 ?side3 ?side4 A29.out).mono ?_
           (case side1 => repeat (first | exact (Kd.R_reads' HO_4.out).2.2 | (with_reducible refine Kd.C_alloc ?_ _) | (with_reducible refine Kd.C_drewN ?_ _) | (with_reducible refine Kd.C_drew ?_)))
           (case side2 => exact (Kd.R_reads' HO_4.out).2.1)
           (case side3 => repeat (first | exact (by repeat (first | (with_reducible exact HR278.out) | (with_reducible refine Kd.C_alloc ?_ _) | (with_reducible refine Kd.C_drewN ?_ _) | (with_reducible refine Kd.C_drew ?_) | exact HR278.out)) | (with_reducible refine Kd.C_alloc ?_ _) | (with_reducible refine Kd.C_drewN ?_ _) | (with_reducible refine Kd.C_drew ?_)))
           (case side4 => exact HC278.out)
           rintro e w41 ⟨v280, rfl, ho0, hb⟩
           refine ⟨_, rfl, ?_⟩
           have n0_ := Aside0.mk (Kd.R_below (by (with_reducible repeat (first | apply Kd.R_alloc | apply Kd.R_drewN | apply Kd.R_drew)); exact HO_4.out) hb)
           have n1_ := Aside0.mk (Kd.R_elder' (by (with_reducible repeat (first | apply Kd.R_alloc | apply Kd.R_drewN | apply Kd.R_drew)); exact HO_7.out) (Kd.R_base ho0) hb)
           have n2_ := Aside0.mk (Kd.R_elder' (by (with_reducible repeat (first | apply Kd.R_alloc | apply Kd.R_drewN | apply Kd.R_drew)); exact HO265.out) (Kd.R_base ho0) hb)
           have n3_ := Aside0.mk (Kd.R_elder' (by (with_reducible repeat (first | apply Kd.R_alloc | apply Kd.R_drewN | apply Kd.R_drew)); exact HO274.out) (Kd.R_base ho0) hb)
           have n4_ := Aside0.mk (Kd.R_lower (Kd.R_new' (Kd.R_new' (Kd.R_new' ho0 (Kd.R_lt (by (with_reducible repeat (first | apply Kd.R_alloc | apply Kd.R_drewN | apply Kd.R_drew)); exact HO_7.out))) (Kd.R_lt (by (with_reducible repeat (first | apply Kd.R_alloc | apply Kd.R_drewN | apply Kd.R_drew)); exact HO265.out))) (Kd.R_lt (by (with_reducible repeat (first | apply Kd.R_alloc | apply Kd.R_drewN | apply Kd.R_drew)); exact HO274.out))) (below_size (by repeat (first | (with_reducible first | exact HB.out | apply below_alloc | apply pw_below_drewN | apply below_drew1 | refine below_set ?_ GE254.out) | exact HB.out))))
           have n5_ := Aside0.mk (blk_below (g := gb254) (o := .cells #[.float .f64 t247, .float .f64 t248] 35 (0, 0)) (by (with_reducible repeat (first | refine blk_drewN ?_ _ | refine blk_drew ?_ | refine blk_alloc ?_ _)); exact BK254.out) hb)
           have n6_ := Aside0.mk (Kd.C_below (by (first | (with_reducible exact HR271.out) | (with_reducible exact Kd.C_drewN HR271.out _) | (with_reducible exact Kd.C_drew HR271.out) | skip); repeat (first | (with_reducible exact HR271.out) | (with_reducible refine Kd.C_alloc ?_ _) | (with_reducible refine Kd.C_drewN ?_ _) | (with_reducible refine Kd.C_drew ?_) | exact HR271.out)) hb)
           have n7_ := Aside0.mk (Kd.C_below (by (first | (with_reducible exact HR278.out) | (with_reducible exact Kd.C_drewN HR278.out _) | (with_reducible exact Kd.C_drew HR278.out) | skip); repeat (first | (with_reducible exact HR278.out) | (with_reducible refine Kd.C_alloc ?_ _) | (with_reducible refine Kd.C_drewN ?_ _) | (with_reducible refine Kd.C_drew ?_) | exact HR278.out)) hb)
           have n8_ := Aside0.mk (below_step (by repeat (first | (with_reducible first | exact HB.out | apply below_alloc | apply pw_below_drewN | apply below_drew1 | refine below_set ?_ GE254.out) | exact HB.out)) hb)
           clear HO_4
           clear HO_7
           clear HO265
           clear HO274
           clear BK254
           clear HR271
           clear HR278
           clear HB
           have HO_4 := n0_
           have HO_7 := n1_
           have HO265 := n2_
           have HO274 := n3_
           have HO281 := n4_
           have BK254 := n5_
           have HR271 := n6_
           have HR278 := n7_
           have HB := n8_
           clear n0_ n1_ n2_ n3_ n4_ n5_ n6_ n7_ n8_
           (try clear hb)
           (try clear hb2)
           (try clear hk)
           (try clear hi)
           (try clear ho0)
           refine hK.out _ _ ⟨(blk_cell BK254.out 0).trans rfl, (blk_cell BK254.out 1).trans rfl⟩ (fun hHeld => ?_)
           clear hK K
           refine norm_ (a' := ?_) ?_ ?_
           rotate_left
           ·show Act.put _ (some 82) _ = _
            simp only [Act.put, List.setIfInBounds_toArray, List.set_cons_zero, List.set_cons_succ, i64_w, i32_w]
            rfl
           refine pure_ (i := 8) (N := some 12) (v := ?_) (a' := ?_) #[true, true, true, true, true, true, true, true, true] rfl rfl (any_of HT_.out (by kernel_rfl)) (fun _ _ _ h => h) (Or.inl ⟨by rfl, ?_⟩) ?_ ?_
           rotate_left
           ·intro w'
            go_simp
            with_reducible rfl
           rotate_left
           ·simp only [Act.put, List.setIfInBounds_toArray, List.set_cons_zero, List.set_cons_succ, i64_w, i32_w]
            rfl
           refine done_ (done_of HT_.out (by kernel_rfl)) ?_
           go_upto_region 15 with (fail)
           go_cut [95] (fun v95 wc => ∃ (kq : Nat) (x95_29 : Bool), v95 = .bool x95_29 ∧ Aside0 (laws_FnRide.j1 kq t249 t252 t253 x7_1 t263 ji23 t272 t279 x95_29 t247 t248 = some true) ∧ Aside0 (kq ≤ k1) ∧ Aside0 (Kd.R k61 61 wc w.heap.size (fun _ => True) (.slice Ao32 t249.length co32) t249) ∧ Aside0 (Kd.R Kd.f64 33 wc w.heap.size (fun k_ => some k_ ≠ ((.slice (some ad267) t263.length co35) : Value).ownBlock ∧ some k_ ≠ (v273 : Value).ownBlock ∧ some k_ ≠ (v280 : Value).ownBlock) (.slice Ao33 x7_1.length co33) x7_1) ∧ Aside0 (Kd.R Kd.f64 33 wc w.heap.size (fun k_ => some k_ ≠ ((.slice Ao33 x7_1.length co33) : Value).ownBlock ∧ some k_ ≠ (v273 : Value).ownBlock ∧ some k_ ≠ (v280 : Value).ownBlock) (.slice (some ad267) t263.length co35) t263) ∧ Aside0 (Kd.R Kd.f64 33 wc w.heap.size (fun k_ => some k_ ≠ ((.slice Ao33 x7_1.length co33) : Value).ownBlock ∧ some k_ ≠ ((.slice (some ad267) t263.length co35) : Value).ownBlock ∧ some k_ ≠ (v280 : Value).ownBlock) v273 t272) ∧ Aside0 (Kd.R Kd.f64 33 wc w.heap.size (fun k_ => some k_ ≠ ((.slice Ao33 x7_1.length co33) : Value).ownBlock ∧ some k_ ≠ ((.slice (some ad267) t263.length co35) : Value).ownBlock ∧ some k_ ≠ (v273 : Value).ownBlock) v280 t279) ∧ Aside0 (wc.heap[gb254]? = some (.cells #[.float .f64 t247, .float .f64 t248] 35 (0, 0))) ∧ Aside0 (Kd.C Kd.f64 wc A37 y268.length y268) ∧ Aside0 (Kd.C Kd.f64 wc Ao33 y275.length y275) ∧ Aside0 (Below w.heap.size w wc))
           case first =>
            have H := HC30.out
            clear HC30
            by_cases c42 : (t272.length : Int) = (wrap64 ((x7_1.length : Int) - (ji23)))
            ·rw [if_pos c42] at H
             have c42b0 : ((t272.length : Int) == (wrap64 ((x7_1.length : Int) - (ji23)))) = true := beq_iff_eq.mpr c42
             have c42b1 : ((t272.length : Int) != (wrap64 ((x7_1.length : Int) - (ji23)))) = false := bne_eq_false_iff_eq.mpr c42
             clear c42
             (first | rw [c42b0] | (simp only [i64_w, i32_w]; rw [c42b0]) | rw [c42b1] | skip)
             have H' := Aside0.mk H
             clear H
             obtain ⟨Ao43, co43, eo43⟩ := Kd.R_slice HO274.out
             subst eo43
             obtain ⟨Ao44, co44, eo44⟩ := Kd.R_slice HO281.out
             subst eo44
             go_wp2
             go_meet
             case rel => exact ⟨_, (((t279.length : Int) != (ji23))), (by first | rfl | (simp; done) | (simp only [← hji23] <;> (first | rfl | simp)) | (simp [*]; done)), H', ⟨by have := HK1.out; first | omega | exact Nat.le_refl _⟩, ⟨by (with_reducible repeat (first | apply Kd.R_alloc | apply Kd.R_drewN | apply Kd.R_drew)); exact HO_4.out⟩, ⟨by (with_reducible repeat (first | apply Kd.R_alloc | apply Kd.R_drewN | apply Kd.R_drew)); exact Kd.R_mono HO_7.out (fun _ hk => ⟨hk.1.1, ⟨hk.1.2, hk.2⟩⟩)⟩, ⟨by (with_reducible repeat (first | apply Kd.R_alloc | apply Kd.R_drewN | apply Kd.R_drew)); exact Kd.R_mono HO265.out (fun _ hk => ⟨hk.1.1, ⟨hk.1.2, hk.2⟩⟩)⟩, ⟨by (with_reducible repeat (first | apply Kd.R_alloc | apply Kd.R_drewN | apply Kd.R_drew)); exact Kd.R_mono HO274.out (fun _ hk => ⟨hk.1.1.2, ⟨hk.1.2, hk.2⟩⟩)⟩, ⟨by (with_reducible repeat (first | apply Kd.R_alloc | apply Kd.R_drewN | apply Kd.R_drew)); exact Kd.R_mono HO281.out (fun _ hk => ⟨hk.1.1.2, ⟨hk.1.2, hk.2⟩⟩)⟩, ⟨by (with_reducible repeat (first | refine blk_drewN ?_ _ | refine blk_drew ?_ | refine blk_alloc ?_ _)); exact BK254.out⟩, ⟨by repeat (first | (with_reducible exact HR271.out) | (with_reducible refine Kd.C_alloc ?_ _) | (with_reducible refine Kd.C_drewN ?_ _) | (with_reducible refine Kd.C_drew ?_) | exact HR271.out)⟩, ⟨by repeat (first | (with_reducible exact HR278.out) | (with_reducible refine Kd.C_alloc ?_ _) | (with_reducible refine Kd.C_drewN ?_ _) | (with_reducible refine Kd.C_drew ?_) | exact HR278.out)⟩, ⟨by repeat (first | (with_reducible first | exact HB.out | apply below_alloc | apply pw_below_drewN | apply below_drew1 | refine below_set ?_ GE254.out) | exact HB.out)⟩⟩
            ·rw [if_neg c42] at H
             have c42b0 : ((t272.length : Int) == (wrap64 ((x7_1.length : Int) - (ji23)))) = false := beq_eq_false_iff_ne.mpr c42
             have c42b1 : ((t272.length : Int) != (wrap64 ((x7_1.length : Int) - (ji23)))) = true := bne_iff_ne.mpr c42
             (first | rw [c42b0] | (simp only [i64_w, i32_w]; rw [c42b0]) | rw [c42b1] | skip)
             have H' := Aside0.mk H
             clear H
             obtain ⟨Ao45, co45, eo45⟩ := Kd.R_slice HO274.out
             subst eo45
             go_wp2
             go_meet
             case rel => exact ⟨_, (true), (by first | rfl | (simp; done) | (simp [*]; done)), H', ⟨by have := HK1.out; first | omega | exact Nat.le_refl _⟩, ⟨by (with_reducible repeat (first | apply Kd.R_alloc | apply Kd.R_drewN | apply Kd.R_drew)); exact HO_4.out⟩, ⟨by (with_reducible repeat (first | apply Kd.R_alloc | apply Kd.R_drewN | apply Kd.R_drew)); exact Kd.R_mono HO_7.out (fun _ hk => ⟨hk.1.1, ⟨hk.1.2, hk.2⟩⟩)⟩, ⟨by (with_reducible repeat (first | apply Kd.R_alloc | apply Kd.R_drewN | apply Kd.R_drew)); exact Kd.R_mono HO265.out (fun _ hk => ⟨hk.1.1, ⟨hk.1.2, hk.2⟩⟩)⟩, ⟨by (with_reducible repeat (first | apply Kd.R_alloc | apply Kd.R_drewN | apply Kd.R_drew)); exact Kd.R_mono HO274.out (fun _ hk => ⟨hk.1.1.2, ⟨hk.1.2, hk.2⟩⟩)⟩, ⟨by (with_reducible repeat (first | apply Kd.R_alloc | apply Kd.R_drewN | apply Kd.R_drew)); exact Kd.R_mono HO281.out (fun _ hk => ⟨hk.1.1.2, ⟨hk.1.2, hk.2⟩⟩)⟩, ⟨by (with_reducible repeat (first | refine blk_drewN ?_ _ | refine blk_drew ?_ | refine blk_alloc ?_ _)); exact BK254.out⟩, ⟨by repeat (first | (with_reducible exact HR271.out) | (with_reducible refine Kd.C_alloc ?_ _) | (with_reducible refine Kd.C_drewN ?_ _) | (with_reducible refine Kd.C_drew ?_) | exact HR271.out)⟩, ⟨by repeat (first | (with_reducible exact HR278.out) | (with_reducible refine Kd.C_alloc ?_ _) | (with_reducible refine Kd.C_drewN ?_ _) | (with_reducible refine Kd.C_drew ?_) | exact HR278.out)⟩, ⟨by repeat (first | (with_reducible first | exact HB.out | apply below_alloc | apply pw_below_drewN | apply below_drew1 | refine below_set ?_ GE254.out) | exact HB.out)⟩⟩
           case rest =>
            clear HC30
            try clear c1
            try clear c2
            try clear p2
            try clear q2
            try clear hx2
            try clear c3
            try clear q3
            try clear c4
            try clear q4
            try clear c6
            try clear p6
            try clear c10
            try clear c11
            try clear c11b0
            try clear c12
            try clear c13
            try clear c13b0
            try clear c13b1
            try clear c14
            try clear c18
            try clear c18b0
            try clear c18b1
            try clear c19
            try clear c19b0
            try clear c19b1
            try clear c19b2
            try clear c21
            try clear c21b0
            try clear c22
            try clear c22b0
            try clear c24
            try clear c24b0
            try clear c24b1
            try clear c25
            try clear c25b0
            try clear c25b1
            try clear p26
            try clear q26
            try clear hx26
            try clear c27
            try clear c27b0
            try clear c28
            try clear c28b0
            try clear c37
            try clear q37
            try clear q40
            try clear c42
            try clear c42b0
            try clear c42b1
            try clear hcz31_0
            try clear hcz31_1
            try clear hcz7_0
            try clear hcz7_1
            try clear hfz31_0
            try clear hfz31_1
            try clear hfz7_0
            try clear hfz7_1
            try clear hx267_0
            try clear p2
            try clear p267
            try clear q037
            try clear q267
            try clear q37
            try clear q40
            obtain ⟨kq, x95_29, rfl, HA, HJ29, HO_4, HO_7, HO_9, HO_11, HO_12, BK254, HR271, HR278, HB⟩ := hcut
            cases kq with
            | zero => exact absurd HA.out (by simp [laws_FnRide.j1])
            | succ kj29 =>
             have H := HA.out
             clear HA
             simp only [laws_FnRide.j1] at H
             by_cases c46 : x95_29 = true
             ·subst c46
              have H1 : (some false) = some true := by (first | (rw [if_pos rfl] at H; exact H) | rfl)
              clear H
              have H := H1
              clear H1
              exact absurd (Option.some.inj H) (by decide)
             ·replace c46 := Bool.eq_false_iff.mpr c46
              subst c46
              have H1 : (laws_FnRide.l1 kj29 t249 t252 t253 x7_1 t263 ji23 t272 t279 0 t247 t248) = some true := by (first | (rw [if_neg (show ¬ (false = true) by decide)] at H; exact H) | rfl)
              clear H
              have H := H1
              clear H1
              have H' := Aside0.mk H
              clear H
              go_wp2
              go_loopg [13] kj29 (fun kq v13 w' => ∃ (x13_3 : Int), v13 = .int .i64 x13_3 ∧ Aside0 (laws_FnRide.l1 kq t249 t252 t253 x7_1 t263 ji23 t272 t279 x13_3 t247 t248 = some true) ∧ Aside0 (kq ≤ kj29) ∧ Aside0 (Kd.R k61 61 w' w.heap.size (fun _ => True) (.slice Ao32 t249.length co32) t249) ∧ Aside0 (Kd.R Kd.f64 33 w' w.heap.size (fun k_ => some k_ ≠ ((.slice (some ad267) t263.length co35) : Value).ownBlock ∧ some k_ ≠ (v273 : Value).ownBlock ∧ some k_ ≠ (v280 : Value).ownBlock) (.slice Ao33 x7_1.length co33) x7_1) ∧ Aside0 (Kd.R Kd.f64 33 w' w.heap.size (fun k_ => some k_ ≠ ((.slice Ao33 x7_1.length co33) : Value).ownBlock ∧ some k_ ≠ (v273 : Value).ownBlock ∧ some k_ ≠ (v280 : Value).ownBlock) (.slice (some ad267) t263.length co35) t263) ∧ Aside0 (Kd.R Kd.f64 33 w' w.heap.size (fun k_ => some k_ ≠ ((.slice Ao33 x7_1.length co33) : Value).ownBlock ∧ some k_ ≠ ((.slice (some ad267) t263.length co35) : Value).ownBlock ∧ some k_ ≠ (v280 : Value).ownBlock) v273 t272) ∧ Aside0 (Kd.R Kd.f64 33 w' w.heap.size (fun k_ => some k_ ≠ ((.slice Ao33 x7_1.length co33) : Value).ownBlock ∧ some k_ ≠ ((.slice (some ad267) t263.length co35) : Value).ownBlock ∧ some k_ ≠ (v273 : Value).ownBlock) v280 t279) ∧ Aside0 (w'.heap[gb254]? = some (.cells #[.float .f64 t247, .float .f64 t248] 35 (0, 0))) ∧ Aside0 (Kd.C Kd.f64 w' A37 y268.length y268) ∧ Aside0 (Kd.C Kd.f64 w' Ao33 y275.length y275) ∧ Aside0 (Below w.heap.size w w'))
              case atStart => exact ⟨(0), (by first | rfl | (simp; done) | (simp [*]; done)), H', ⟨Nat.le_refl _⟩, ⟨by (with_reducible repeat (first | apply Kd.R_alloc | apply Kd.R_drewN | apply Kd.R_drew)); exact HO_4.out⟩, ⟨by (with_reducible repeat (first | apply Kd.R_alloc | apply Kd.R_drewN | apply Kd.R_drew)); exact HO_7.out⟩, ⟨by (with_reducible repeat (first | apply Kd.R_alloc | apply Kd.R_drewN | apply Kd.R_drew)); exact HO_9.out⟩, ⟨by (with_reducible repeat (first | apply Kd.R_alloc | apply Kd.R_drewN | apply Kd.R_drew)); exact HO_11.out⟩, ⟨by (with_reducible repeat (first | apply Kd.R_alloc | apply Kd.R_drewN | apply Kd.R_drew)); exact HO_12.out⟩, ⟨by (with_reducible repeat (first | refine blk_drewN ?_ _ | refine blk_drew ?_ | refine blk_alloc ?_ _)); exact BK254.out⟩, ⟨by repeat (first | (with_reducible exact HR271.out) | (with_reducible refine Kd.C_alloc ?_ _) | (with_reducible refine Kd.C_drewN ?_ _) | (with_reducible refine Kd.C_drew ?_) | exact HR271.out)⟩, ⟨by repeat (first | (with_reducible exact HR278.out) | (with_reducible refine Kd.C_alloc ?_ _) | (with_reducible refine Kd.C_drewN ?_ _) | (with_reducible refine Kd.C_drew ?_) | exact HR278.out)⟩, ⟨by repeat (first | (with_reducible first | exact HB.out | apply below_alloc | apply pw_below_drewN | apply below_drew1 | refine below_set ?_ GE254.out) | exact HB.out)⟩⟩
              case round =>
               clear H'
               try clear c1
               try clear c2
               try clear p2
               try clear q2
               try clear hx2
               try clear c3
               try clear q3
               try clear c4
               try clear q4
               try clear c6
               try clear p6
               try clear c10
               try clear c11
               try clear c11b0
               try clear c12
               try clear c13
               try clear c13b0
               try clear c13b1
               try clear c14
               try clear c18
               try clear c18b0
               try clear c18b1
               try clear c19
               try clear c19b0
               try clear c19b1
               try clear c19b2
               try clear c21
               try clear c21b0
               try clear c22
               try clear c22b0
               try clear c24
               try clear c24b0
               try clear c24b1
               try clear c25
               try clear c25b0
               try clear c25b1
               try clear p26
               try clear q26
               try clear hx26
               try clear c27
               try clear c27b0
               try clear c28
               try clear c28b0
               try clear c37
               try clear q37
               try clear q40
               try clear c42
               try clear c42b0
               try clear c42b1
               try clear c46
               try clear hcz31_0
               try clear hcz31_1
               try clear hcz7_0
               try clear hcz7_1
               try clear hfz31_0
               try clear hfz31_1
               try clear hfz7_0
               try clear hfz7_1
               try clear hx267_0
               try clear p2
               try clear p26
               try clear p267
               try clear p6
               try clear q037
               try clear q2
               try clear q26
               try clear q267
               try clear q3
               try clear q37
               try clear q4
               try clear q40
               obtain ⟨x13_3, rfl, HA, HK3, HO_4, HO_7, HO_9, HO_11, HO_12, BK254, HR271, HR278, HB⟩ := hrel
               cases gk with
               | zero => exact absurd HA.out (by simp [laws_FnRide.l1])
               | succ k3 =>
                have H := HA.out
                clear HA
                simp only [laws_FnRide.l1] at H
                by_cases c47 : x13_3 < (t263.length : Int)
                ·rw [if_pos c47] at H
                 have c47b0 : decide (x13_3 < (t263.length : Int)) = true := decide_eq_true c47
                 clear c47
                 have HC48 := Aside0.mk H
                 clear H
                 go_upto_if 104 with (fail)
                 go_cut [14] (fun v14 wc => ∃ (kq : Nat) (x14_47 : Nat), v14 = .float .f64 x14_47 ∧ Aside0 (laws_FnRide.j3 kq t249 t252 t253 x7_1 t263 ji23 t272 t279 x13_3 x14_47 t247 t248 = some true) ∧ Aside0 (kq ≤ k3) ∧ Aside0 (Kd.R k61 61 wc w.heap.size (fun _ => True) (.slice Ao32 t249.length co32) t249) ∧ Aside0 (Kd.R Kd.f64 33 wc w.heap.size (fun k_ => some k_ ≠ ((.slice (some ad267) t263.length co35) : Value).ownBlock ∧ some k_ ≠ (v273 : Value).ownBlock ∧ some k_ ≠ (v280 : Value).ownBlock) (.slice Ao33 x7_1.length co33) x7_1) ∧ Aside0 (Kd.R Kd.f64 33 wc w.heap.size (fun k_ => some k_ ≠ ((.slice Ao33 x7_1.length co33) : Value).ownBlock ∧ some k_ ≠ (v273 : Value).ownBlock ∧ some k_ ≠ (v280 : Value).ownBlock) (.slice (some ad267) t263.length co35) t263) ∧ Aside0 (Kd.R Kd.f64 33 wc w.heap.size (fun k_ => some k_ ≠ ((.slice Ao33 x7_1.length co33) : Value).ownBlock ∧ some k_ ≠ ((.slice (some ad267) t263.length co35) : Value).ownBlock ∧ some k_ ≠ (v280 : Value).ownBlock) v273 t272) ∧ Aside0 (Kd.R Kd.f64 33 wc w.heap.size (fun k_ => some k_ ≠ ((.slice Ao33 x7_1.length co33) : Value).ownBlock ∧ some k_ ≠ ((.slice (some ad267) t263.length co35) : Value).ownBlock ∧ some k_ ≠ (v273 : Value).ownBlock) v280 t279) ∧ Aside0 (wc.heap[gb254]? = some (.cells #[.float .f64 t247, .float .f64 t248] 35 (0, 0))) ∧ Aside0 (Kd.C Kd.f64 wc A37 y268.length y268) ∧ Aside0 (Kd.C Kd.f64 wc Ao33 y275.length y275) ∧ Aside0 (Below w.heap.size w wc))
                 case first =>
                  have H := HC48.out
                  clear HC48
                  by_cases c49 : x13_3 < ji23
                  ·rw [if_pos c49] at H
                   have c49b0 : decide (x13_3 < ji23) = true := decide_eq_true c49
                   clear c49
                   (first | rw [c49b0] | (simp only [i64_w, i32_w]; rw [c49b0]) | rw [c49b1] | skip)
                   by_cases c50 : 0 ≤ x13_3
                   ·rw [if_pos c50] at H
                    have c50b0 : decide (0 ≤ x13_3) = true := decide_eq_true c50
                    clear c50
                    by_cases c51 : x13_3 < (t279.length : Int)
                    ·rw [if_pos c51] at H
                     have c51b0 : decide (x13_3 < (t279.length : Int)) = true := decide_eq_true c51
                     clear c51
                     have H' := Aside0.mk H
                     clear H
                     obtain ⟨Ao52, co52, eo52⟩ := Kd.R_slice HO_12.out
                     subst eo52
                     have p282 : 0 ≤ (x13_3 : Int) := of_decide_eq_true (by first | (with_reducible assumption) | assumption)
                     have q282 : x13_3 < (t279.length : Int) := of_decide_eq_true (by first | (with_reducible assumption) | assumption)
                     obtain ⟨ad282, e282, hx282_0⟩ := Kd.at_f64 (Kd.R_reads' HO_12.out).2.2 x13_3 p282 q282
                     cases e282
                     replace p282 := eq_true p282
                     replace q282 := eq_true q282
                     go_wp2
                     go_meet
                     case rel => exact ⟨_, (rdOf (0 : Nat) t279 x13_3), (by first | rfl | (simp; done) | (simp [*]; done)), H', ⟨by have := HK1.out; have := HJ29.out; have := HK3.out; first | omega | exact Nat.le_refl _⟩, ⟨by (with_reducible repeat (first | apply Kd.R_alloc | apply Kd.R_drewN | apply Kd.R_drew)); exact HO_4.out⟩, ⟨by (with_reducible repeat (first | apply Kd.R_alloc | apply Kd.R_drewN | apply Kd.R_drew)); exact HO_7.out⟩, ⟨by (with_reducible repeat (first | apply Kd.R_alloc | apply Kd.R_drewN | apply Kd.R_drew)); exact HO_9.out⟩, ⟨by (with_reducible repeat (first | apply Kd.R_alloc | apply Kd.R_drewN | apply Kd.R_drew)); exact HO_11.out⟩, ⟨by (with_reducible repeat (first | apply Kd.R_alloc | apply Kd.R_drewN | apply Kd.R_drew)); exact HO_12.out⟩, ⟨by (with_reducible repeat (first | refine blk_drewN ?_ _ | refine blk_drew ?_ | refine blk_alloc ?_ _)); exact BK254.out⟩, ⟨by repeat (first | (with_reducible exact HR271.out) | (with_reducible refine Kd.C_alloc ?_ _) | (with_reducible refine Kd.C_drewN ?_ _) | (with_reducible refine Kd.C_drew ?_) | exact HR271.out)⟩, ⟨by repeat (first | (with_reducible exact HR278.out) | (with_reducible refine Kd.C_alloc ?_ _) | (with_reducible refine Kd.C_drewN ?_ _) | (with_reducible refine Kd.C_drew ?_) | exact HR278.out)⟩, ⟨by repeat (first | (with_reducible first | exact HB.out | apply below_alloc | apply pw_below_drewN | apply below_drew1 | refine below_set ?_ GE254.out) | exact HB.out)⟩⟩
                    ·rw [if_neg c51] at H
                     exact absurd H (by simp)
                   ·rw [if_neg c50] at H
                    exact absurd H (by simp)
                  ·rw [if_neg c49] at H
                   have c49b0 : decide (x13_3 < ji23) = false := decide_eq_false c49
                   clear c49
                   (first | rw [c49b0] | (simp only [i64_w, i32_w]; rw [c49b0]) | rw [c49b1] | skip)
                   obtain ⟨ji53, hji53⟩ : ∃ j_ : Int, (wrap64 (x13_3 - ji23)) = j_ := ⟨_, rfl⟩
                   replace H : (if 0 ≤ (ji53) then (if (ji53) < (t272.length : Int) then (laws_FnRide.j3 k3 t249 t252 t253 x7_1 t263 ji23 t272 t279 x13_3 (rdOf (0 : Nat) t272 (ji53)) t247 t248) else (none)) else (none)) = some true := by first | (rw [hji53] at H; exact H) | (simp only [hji53] at H ⊢; exact H)
                   have hji53w : (IntKind.i64.wrap (x13_3 - ji23)) = ji53 := (i64_w _).trans hji53
                   by_cases c54 : 0 ≤ (ji53)
                   ·rw [if_pos c54] at H
                    have c54b0 : decide (0 ≤ (ji53)) = true := decide_eq_true c54
                    clear c54
                    by_cases c55 : (ji53) < (t272.length : Int)
                    ·rw [if_pos c55] at H
                     have c55b0 : decide ((ji53) < (t272.length : Int)) = true := decide_eq_true c55
                     clear c55
                     have H' := Aside0.mk H
                     clear H
                     obtain ⟨Ao56, co56, eo56⟩ := Kd.R_slice HO_11.out
                     subst eo56
                     have p283 : 0 ≤ ((ji53) : Int) := of_decide_eq_true (by first | (with_reducible assumption) | assumption)
                     have q283 : (ji53) < (t272.length : Int) := of_decide_eq_true (by first | (with_reducible assumption) | assumption)
                     obtain ⟨ad283, e283, hx283_0⟩ := Kd.at_f64 (Kd.R_reads' HO_11.out).2.2 (ji53) p283 q283
                     cases e283
                     replace p283 := eq_true p283
                     replace q283 := eq_true q283
                     go_wp2
                     go_meet
                     case rel => exact ⟨_, (rdOf (0 : Nat) t272 (ji53)), (by first | rfl | (simp; done) | (simp only [← hji53] <;> (first | rfl | simp)) | (simp [*]; done)), H', ⟨by have := HK1.out; have := HJ29.out; have := HK3.out; first | omega | exact Nat.le_refl _⟩, ⟨by (with_reducible repeat (first | apply Kd.R_alloc | apply Kd.R_drewN | apply Kd.R_drew)); exact HO_4.out⟩, ⟨by (with_reducible repeat (first | apply Kd.R_alloc | apply Kd.R_drewN | apply Kd.R_drew)); exact HO_7.out⟩, ⟨by (with_reducible repeat (first | apply Kd.R_alloc | apply Kd.R_drewN | apply Kd.R_drew)); exact HO_9.out⟩, ⟨by (with_reducible repeat (first | apply Kd.R_alloc | apply Kd.R_drewN | apply Kd.R_drew)); exact HO_11.out⟩, ⟨by (with_reducible repeat (first | apply Kd.R_alloc | apply Kd.R_drewN | apply Kd.R_drew)); exact HO_12.out⟩, ⟨by (with_reducible repeat (first | refine blk_drewN ?_ _ | refine blk_drew ?_ | refine blk_alloc ?_ _)); exact BK254.out⟩, ⟨by repeat (first | (with_reducible exact HR271.out) | (with_reducible refine Kd.C_alloc ?_ _) | (with_reducible refine Kd.C_drewN ?_ _) | (with_reducible refine Kd.C_drew ?_) | exact HR271.out)⟩, ⟨by repeat (first | (with_reducible exact HR278.out) | (with_reducible refine Kd.C_alloc ?_ _) | (with_reducible refine Kd.C_drewN ?_ _) | (with_reducible refine Kd.C_drew ?_) | exact HR278.out)⟩, ⟨by repeat (first | (with_reducible first | exact HB.out | apply below_alloc | apply pw_below_drewN | apply below_drew1 | refine below_set ?_ GE254.out) | exact HB.out)⟩⟩
                    ·rw [if_neg c55] at H
                     exact absurd H (by simp)
                   ·rw [if_neg c54] at H
                    exact absurd H (by simp)
                 case rest =>
                  clear HC48
                  try clear c1
                  try clear c2
                  try clear p2
                  try clear q2
                  try clear hx2
                  try clear c3
                  try clear q3
                  try clear c4
                  try clear q4
                  try clear c5
                  try clear c6
                  try clear p6
                  try clear c10
                  try clear c11
                  try clear c11b0
                  try clear c12
                  try clear c13
                  try clear c13b0
                  try clear c13b1
                  try clear c14
                  try clear c18
                  try clear c18b0
                  try clear c18b1
                  try clear c19
                  try clear c19b0
                  try clear c19b1
                  try clear c19b2
                  try clear c21
                  try clear c21b0
                  try clear c22
                  try clear c22b0
                  try clear c24
                  try clear c24b0
                  try clear c24b1
                  try clear c25
                  try clear c25b0
                  try clear c25b1
                  try clear p26
                  try clear q26
                  try clear hx26
                  try clear c27
                  try clear c27b0
                  try clear c28
                  try clear c28b0
                  try clear p28
                  try clear q28
                  try clear hx28
                  try clear c37
                  try clear q37
                  try clear q40
                  try clear c42
                  try clear c42b0
                  try clear c42b1
                  try clear c46
                  try clear c47
                  try clear c47b0
                  try clear c49
                  try clear c49b0
                  try clear c49b1
                  try clear c50
                  try clear c50b0
                  try clear c51
                  try clear c51b0
                  try clear c54
                  try clear c54b0
                  try clear c55
                  try clear c55b0
                  try clear hcz31_0
                  try clear hcz31_1
                  try clear hcz7_0
                  try clear hcz7_1
                  try clear hfz31_0
                  try clear hfz31_1
                  try clear hfz7_0
                  try clear hfz7_1
                  try clear hx267_0
                  try clear hx282_0
                  try clear hx283_0
                  try clear p2
                  try clear p26
                  try clear p267
                  try clear p282
                  try clear p283
                  try clear p6
                  try clear q037
                  try clear q2
                  try clear q26
                  try clear q267
                  try clear q282
                  try clear q283
                  try clear q3
                  try clear q37
                  try clear q4
                  try clear q40
                  obtain ⟨kq, x14_47, rfl, HA, HJ47, HO_4, HO_7, HO_9, HO_11, HO_12, BK254, HR271, HR278, HB⟩ := hcut
                  cases kq with
                  | zero => exact absurd HA.out (by simp [laws_FnRide.j3])
                  | succ kj47 =>
                   have H := HA.out
                   clear HA
                   simp only [laws_FnRide.j3] at H
                   by_cases c57 : 0 ≤ x13_3
                   ·rw [if_pos c57] at H
                    have c57b0 : decide (0 ≤ x13_3) = true := decide_eq_true c57
                    clear c57
                    by_cases c58 : x13_3 < (t263.length : Int)
                    ·rw [if_pos c58] at H
                     have c58b0 : decide (x13_3 < (t263.length : Int)) = true := decide_eq_true c58
                     clear c58
                     replace H := Option.bind_eq_some_iff.mp H
                     obtain ⟨t285, A590, H⟩ := H
                     replace H : (if t285 = true then ((impl_InRange.f (rdOf (0 : Nat) t263 x13_3) (0 : Nat) (4641240890982006784 : Nat)).bind fun t287 => (if t287 = true then (laws_FnRide.l1 kj47 t249 t252 t253 x7_1 t263 ji23 t272 t279 (wrap64 (x13_3 + 1)) t247 t248) else (some false))) else (some false)) = some true := H
                     have A59 := Aside0.mk A590
                     clear A590
                     by_cases c60 : t285 = true
                     ·subst c60
                      have H1 : ((impl_InRange.f (rdOf (0 : Nat) t263 x13_3) (0 : Nat) (4641240890982006784 : Nat)).bind fun t287 => (if t287 = true then (laws_FnRide.l1 kj47 t249 t252 t253 x7_1 t263 ji23 t272 t279 (wrap64 (x13_3 + 1)) t247 t248) else (some false))) = some true := by (first | (rw [if_pos rfl] at H; exact H) | rfl)
                      clear H
                      have H := H1
                      clear H1
                      replace H := Option.bind_eq_some_iff.mp H
                      obtain ⟨t287, A610, H⟩ := H
                      replace H : (if t287 = true then (laws_FnRide.l1 kj47 t249 t252 t253 x7_1 t263 ji23 t272 t279 (wrap64 (x13_3 + 1)) t247 t248) else (some false)) = some true := H
                      have A61 := Aside0.mk A610
                      clear A610
                      by_cases c62 : t287 = true
                      ·subst c62
                       have H1 : (laws_FnRide.l1 kj47 t249 t252 t253 x7_1 t263 ji23 t272 t279 (wrap64 (x13_3 + 1)) t247 t248) = some true := by (first | (rw [if_pos rfl] at H; exact H) | rfl)
                       clear H
                       have H := H1
                       clear H1
                       have H' := Aside0.mk H
                       clear H
                       have p284 : 0 ≤ (x13_3 : Int) := of_decide_eq_true (by first | (with_reducible assumption) | assumption)
                       have q284 : x13_3 < (t263.length : Int) := of_decide_eq_true (by first | (with_reducible assumption) | assumption)
                       obtain ⟨ad284, e284, hx284_0⟩ := Kd.at_f64 (Kd.R_reads' HO_9.out).2.2 x13_3 p284 q284
                       obtain rfl : ad267 = ad284 := (by injection e284)
                       replace p284 := eq_true p284
                       replace q284 := eq_true q284
                       go_wp2_with (first | ((with_reducible refine gate_callee (f := 14) rfl ?_); refine goesL_ (some 120) rfl rfl Try.func14 (by kernel_rfl) rfl #[.float .f64 (rdOf (0 : Nat) t263 x13_3), .float .f64 x14_47] rfl (by (try simp only [List.map_toArray, List.map_cons, List.map_nil]); first | done | rfl | (simp only [List.length_drop, List.length_take]; rfl)) ?_; (with_reducible refine (laws_sameBits.calls kj47 (rdOf (0 : Nat) t263 x13_3) x14_47 true _ A59.out).mono ?_); rintro e w' ⟨rfl, ⟨nd, rfl⟩⟩; refine ⟨_, rfl, ?_⟩; have p286 : 0 ≤ (x13_3 : Int) := of_decide_eq_true (by first | (with_reducible assumption) | assumption); have q286 : x13_3 < (t263.length : Int) := of_decide_eq_true (by first | (with_reducible assumption) | assumption); obtain ⟨ad286, e286, hx286_0⟩ := Kd.at_f64 (Kd.R_reads' HO_9.out).2.2 x13_3 p286 q286; obtain rfl : ad267 = ad286 := (by injection e286); replace p286 := eq_true p286; replace q286 := eq_true q286) | (go_at_call 15; (with_reducible refine (impl_InRange.calls (rdOf (0 : Nat) t263 x13_3) (0 : Nat) (4641240890982006784 : Nat) true _ A61.out).mono ?_); rintro e w' ⟨rfl, ⟨nd, rfl⟩⟩))
                       go_roundg kj47
                       case measure => have := HK1.out; have := HJ29.out; have := HK3.out; have := HJ47.out; omega
                       case rel => exact ⟨(wrap64 (x13_3 + 1)), (by first | rfl | (simp; done) | (simp [*]; done)), H', ⟨by have := HK1.out; have := HJ29.out; have := HK3.out; have := HJ47.out; omega⟩, ⟨by (with_reducible repeat (first | apply Kd.R_alloc | apply Kd.R_drewN | apply Kd.R_drew)); exact HO_4.out⟩, ⟨by (with_reducible repeat (first | apply Kd.R_alloc | apply Kd.R_drewN | apply Kd.R_drew)); exact HO_7.out⟩, ⟨by (with_reducible repeat (first | apply Kd.R_alloc | apply Kd.R_drewN | apply Kd.R_drew)); exact HO_9.out⟩, ⟨by (with_reducible repeat (first | apply Kd.R_alloc | apply Kd.R_drewN | apply Kd.R_drew)); exact HO_11.out⟩, ⟨by (with_reducible repeat (first | apply Kd.R_alloc | apply Kd.R_drewN | apply Kd.R_drew)); exact HO_12.out⟩, ⟨by (with_reducible repeat (first | refine blk_drewN ?_ _ | refine blk_drew ?_ | refine blk_alloc ?_ _)); exact BK254.out⟩, ⟨by repeat (first | (with_reducible exact HR271.out) | (with_reducible refine Kd.C_alloc ?_ _) | (with_reducible refine Kd.C_drewN ?_ _) | (with_reducible refine Kd.C_drew ?_) | exact HR271.out)⟩, ⟨by repeat (first | (with_reducible exact HR278.out) | (with_reducible refine Kd.C_alloc ?_ _) | (with_reducible refine Kd.C_drewN ?_ _) | (with_reducible refine Kd.C_drew ?_) | exact HR278.out)⟩, ⟨by repeat (first | (with_reducible first | exact HB.out | apply below_alloc | apply pw_below_drewN | apply below_drew1 | refine below_set ?_ GE254.out) | exact HB.out)⟩⟩
                      ·replace c62 := Bool.eq_false_iff.mpr c62
                       subst c62
                       have H1 : (some false) = some true := by (first | (rw [if_neg (show ¬ (false = true) by decide)] at H; exact H) | rfl)
                       clear H
                       have H := H1
                       clear H1
                       exact absurd (Option.some.inj H) (by decide)
                     ·replace c60 := Bool.eq_false_iff.mpr c60
                      subst c60
                      have H1 : (some false) = some true := by (first | (rw [if_neg (show ¬ (false = true) by decide)] at H; exact H) | rfl)
                      clear H
                      have H := H1
                      clear H1
                      exact absurd (Option.some.inj H) (by decide)
                    ·rw [if_neg c58] at H
                     exact absurd H (by simp)
                   ·rw [if_neg c57] at H
                    exact absurd H (by simp)
                ·rw [if_neg c47] at H
                 have c47b0 : decide (x13_3 < (t263.length : Int)) = false := decide_eq_false c47
                 clear c47
                 by_cases c63 : 0 < (x7_1.length : Int)
                 ·rw [if_pos c63] at H
                  have c63b0 : decide (0 < (x7_1.length : Int)) = true := decide_eq_true c63
                  have c63b1 : decide (0 < x7_1.length) = true := decide_eq_true (by omega)
                  clear c63
                  replace H := Option.bind_eq_some_iff.mp H
                  obtain ⟨t289, A640, H⟩ := H
                  replace H : (if 0 < (t263.length : Int) then ((laws_sameBits.f k3 t289 (rdOf (0 : Nat) t263 0)).bind fun t291 => (if t291 = true then ((spec_Pull.f k3 t247 t248 t249 t252 (rdOf (0 : Nat) x7_1 0) t253).bind fun t293 => ((laws_sameBits.f k3 t289 t293).bind fun t294 => (if t294 = true then ((impl_Pull.f k3 t247 t248 t249 t252 (rdOf (0 : Nat) x7_1 0) (0 : Nat)).bind fun t296 => (some (feq t296 t252))) else (some false)))) else (some false))) else (none)) = some true := H
                  have A64 := Aside0.mk A640
                  clear A640
                  by_cases c65 : 0 < (t263.length : Int)
                  ·rw [if_pos c65] at H
                   have c65b0 : decide (0 < (t263.length : Int)) = true := decide_eq_true c65
                   have c65b1 : decide (0 < t263.length) = true := decide_eq_true (by omega)
                   clear c65
                   replace H := Option.bind_eq_some_iff.mp H
                   obtain ⟨t291, A660, H⟩ := H
                   replace H : (if t291 = true then ((spec_Pull.f k3 t247 t248 t249 t252 (rdOf (0 : Nat) x7_1 0) t253).bind fun t293 => ((laws_sameBits.f k3 t289 t293).bind fun t294 => (if t294 = true then ((impl_Pull.f k3 t247 t248 t249 t252 (rdOf (0 : Nat) x7_1 0) (0 : Nat)).bind fun t296 => (some (feq t296 t252))) else (some false)))) else (some false)) = some true := H
                   have A66 := Aside0.mk A660
                   clear A660
                   by_cases c67 : t291 = true
                   ·subst c67
                    have H1 : ((spec_Pull.f k3 t247 t248 t249 t252 (rdOf (0 : Nat) x7_1 0) t253).bind fun t293 => ((laws_sameBits.f k3 t289 t293).bind fun t294 => (if t294 = true then ((impl_Pull.f k3 t247 t248 t249 t252 (rdOf (0 : Nat) x7_1 0) (0 : Nat)).bind fun t296 => (some (feq t296 t252))) else (some false)))) = some true := by (first | (rw [if_pos rfl] at H; exact H) | rfl)
                    clear H
                    have H := H1
                    clear H1
                    replace H := Option.bind_eq_some_iff.mp H
                    obtain ⟨t293, A680, H⟩ := H
                    replace H : ((laws_sameBits.f k3 t289 t293).bind fun t294 => (if t294 = true then ((impl_Pull.f k3 t247 t248 t249 t252 (rdOf (0 : Nat) x7_1 0) (0 : Nat)).bind fun t296 => (some (feq t296 t252))) else (some false))) = some true := H
                    have A68 := Aside0.mk A680
                    clear A680
                    replace H := Option.bind_eq_some_iff.mp H
                    obtain ⟨t294, A690, H⟩ := H
                    replace H : (if t294 = true then ((impl_Pull.f k3 t247 t248 t249 t252 (rdOf (0 : Nat) x7_1 0) (0 : Nat)).bind fun t296 => (some (feq t296 t252))) else (some false)) = some true := H
                    have A69 := Aside0.mk A690
                    clear A690
                    by_cases c70 : t294 = true
                    ·subst c70
                     have H1 : ((impl_Pull.f k3 t247 t248 t249 t252 (rdOf (0 : Nat) x7_1 0) (0 : Nat)).bind fun t296 => (some (feq t296 t252))) = some true := by (first | (rw [if_pos rfl] at H; exact H) | rfl)
                     clear H
                     have H := H1
                     clear H1
                     replace H := Option.bind_eq_some_iff.mp H
                     obtain ⟨t296, A710, H⟩ := H
                     replace H : (some (feq t296 t252)) = some true := H
                     have A71 := Aside0.mk A710
                     clear A710
                     have HRT : ((feq t296 t252)) = true := Option.some.inj H
                     try go_wp2
                     have n0_ := Aside0.mk (Kd.R_drew HO_4.out)
                     have n1_ := Aside0.mk (Kd.R_drew HO_7.out)
                     have n2_ := Aside0.mk (Kd.R_drew HO_9.out)
                     have n3_ := Aside0.mk (Kd.R_drew HO_11.out)
                     have n4_ := Aside0.mk (Kd.R_drew HO_12.out)
                     have n5_ := Aside0.mk (blk_drew BK254.out)
                     have n6_ := Aside0.mk (Kd.C_drew HR271.out)
                     have n7_ := Aside0.mk (Kd.C_drew HR278.out)
                     have n8_ := Aside0.mk (below_drew1 HB.out)
                     clear HO_4
                     clear HO_7
                     clear HO_9
                     clear HO_11
                     clear HO_12
                     clear BK254
                     clear HR271
                     clear HR278
                     clear HB
                     have HO_4 := n0_
                     have HO_7 := n1_
                     have HO_9 := n2_
                     have HO_11 := n3_
                     have HO_12 := n4_
                     have BK254 := n5_
                     have HR271 := n6_
                     have HR278 := n7_
                     have HB := n8_
                     clear n0_ n1_ n2_ n3_ n4_ n5_ n6_ n7_ n8_
                     have p288 : 0 ≤ (0 : Int) := (by omega)
                     have q288 : 0 < (x7_1.length : Int) := of_decide_eq_true (by first | (with_reducible assumption) | assumption)
                     obtain ⟨ad288, e288, hx288_0⟩ := Kd.at_f64 (Kd.R_reads' HO_7.out).2.2 0 p288 q288
                     cases e288
                     have qi288 : (0 < x7_1.length) = True := eq_true (by omega)
                     (try rw [show ((0 : Int)).toNat = 0 from rfl] at hx288_0)
                     (try rw [Addr.add_zero'] at hx288_0)
                     replace p288 := eq_true p288
                     replace q288 := eq_true q288
                     refine start_ (n := 9) (S := fun w' => w'.cell? ⟨gb254, 0, none⟩ = some (.float .f64 t247) ∧ w'.cell? ⟨gb254, 1, none⟩ = some (.float .f64 t248) ∧ w'.cell? ad288 = some (.float .f64 (rdOf (0 : Nat) x7_1 0))) (ds := []) #[false, false, false, false, false, false, false, false, false] (by kernel_rfl) rfl rfl ⟨(blk_cell BK254.out 0).trans rfl, (blk_cell BK254.out 1).trans rfl, hx288_0⟩ (fun hHeld => ?_); refine with_tabW laws_FnRide.tab26 laws_FnRide.bits26 (fun HT_ HW_ => ?_)
                     generalize wr.drew = w72 at HO_4 HO_7 HO_9 HO_11 HO_12 BK254 HR271 HR278 HB hx288_0 hHeld ⊢
                     refine pure_ (i := 1) (N := some 131) (v := ?_) (a' := ?_) #[false, true, false, false, false, false, false, false, false] rfl rfl (any_of HT_.out (by kernel_rfl)) (fun _ _ _ h => h) (Or.inl ⟨by rfl, ?_⟩) ?_ ?_
                     rotate_left
                     ·intro w'
                      go_simp
                      with_reducible rfl
                     rotate_left
                     ·simp only [Act.put, List.setIfInBounds_toArray, List.set_cons_zero, List.set_cons_succ, i64_w, i32_w]
                      rfl
                     refine pure_ (i := 2) (N := some 132) (v := ?_) (a' := ?_) #[false, true, true, false, false, false, false, false, false] rfl rfl (any_of HT_.out (by kernel_rfl)) (fun _ _ _ h => h) (Or.inl ⟨by rfl, ?_⟩) ?_ ?_
                     rotate_left
                     ·intro w'
                      go_simp
                      with_reducible rfl
                     rotate_left
                     ·simp only [Act.put, List.setIfInBounds_toArray, List.set_cons_zero, List.set_cons_succ, i64_w, i32_w]
                      rfl
                     refine pure_ (i := 3) (N := some 133) (v := ?_) (a' := ?_) #[false, true, true, true, false, false, false, false, false] rfl rfl (any_of HT_.out (by kernel_rfl)) (fun _ _ _ h => h) (Or.inl ⟨by rfl, ?_⟩) ?_ ?_
                     rotate_left
                     ·intro w'
                      go_simp
                      with_reducible rfl
                     rotate_left
                     ·simp only [Act.put, List.setIfInBounds_toArray, List.set_cons_zero, List.set_cons_succ, i64_w, i32_w]
                      rfl
                     refine pure_ (i := 4) (N := some 134) (v := ?_) (a' := ?_) #[false, true, true, true, true, false, false, false, false] rfl rfl (any_of HT_.out (by kernel_rfl)) (fun _ _ _ h => h) (Or.inl ⟨by rfl, ?_⟩) ?_ ?_
                     rotate_left
                     ·intro w'
                      go_simp
                      with_reducible rfl
                     rotate_left
                     ·simp only [Act.put, List.setIfInBounds_toArray, List.set_cons_zero, List.set_cons_succ, i64_w, i32_w]
                      rfl
                     refine pure_ (i := 6) (N := some 136) (v := ?_) (a' := ?_) #[false, true, true, true, true, false, true, false, false] rfl rfl (any_of HT_.out (by kernel_rfl)) (fun _ _ _ h => h) (Or.inl ⟨by rfl, ?_⟩) ?_ ?_
                     rotate_left
                     ·intro w'
                      go_simp
                      with_reducible rfl
                     rotate_left
                     ·simp only [Act.put, List.setIfInBounds_toArray, List.set_cons_zero, List.set_cons_succ, i64_w, i32_w]
                      rfl
                     refine take_ (i := 0) (N := some 130) (v := ?_) (a' := ?_) #[true, true, true, true, true, false, true, false, false] rfl rfl (take_ofW HT_.out HW_.out (by kernel_rfl)) (fun _ _ _ h => h) (Or.inl ⟨by rfl, ?_⟩) hHeld ?_ ?_
                     rotate_left
                     ·rintro w' ⟨s0, s1, s2⟩
                      go_simp
                      with_reducible rfl
                     rotate_left
                     ·simp only [Act.put, List.setIfInBounds_toArray, List.set_cons_zero, List.set_cons_succ, i64_w, i32_w]
                      rfl
                     refine take_ (i := 5) (N := some 135) (v := ?_) (a' := ?_) #[true, true, true, true, true, true, true, false, false] rfl rfl (take_ofW HT_.out HW_.out (by kernel_rfl)) (fun _ _ _ h => h) (Or.inl ⟨by rfl, ?_⟩) hHeld ?_ ?_
                     rotate_left
                     ·rintro w' ⟨s0, s1, s2⟩
                      go_simp
                      with_reducible rfl
                     rotate_left
                     ·simp only [Act.put, List.setIfInBounds_toArray, List.set_cons_zero, List.set_cons_succ, i64_w, i32_w]
                      rfl
                     refine one_ (i := 7) (N := some 137) #[true, true, true, true, true, true, true, true, false] rfl rfl (one_of HT_.out (by kernel_rfl)) (by decide) (fun K hK => ?_)
                     refine goes_ Try.func16 (by kernel_rfl) rfl #[.agg #[.float .f64 t247, .float .f64 t248], .slice Ao32 t249.length co32, .float .f64 t252, .float .f64 (rdOf (0 : Nat) x7_1 0), .float .f64 t253] (by rfl) rfl rfl (by (try simp only [List.map_toArray, List.map_cons, List.map_nil]); first | done | rfl | (simp only [List.length_drop, List.length_take]; rfl)) ?_
                     with_reducible refine (impl_Pull.calls k3 t247 t248 _ _ t249 t252 (rdOf (0 : Nat) x7_1 0) t253 t289 _ ?side1 ?side2 A64.out).mono ?_
                     (case side1 => repeat (first | exact (Kd.R_reads' HO_4.out).2.2 | (with_reducible refine Kd.C_alloc ?_ _) | (with_reducible refine Kd.C_drewN ?_ _) | (with_reducible refine Kd.C_drew ?_)))
                     (case side2 => exact (Kd.R_reads' HO_4.out).2.1)
                     rintro e w73 ⟨rfl, hb⟩
                     have HS2_ := (hb.cell (World.block_lt_of_cell? _ _ (hHeld.2.2))).trans (hHeld.2.2)
                     refine ⟨_, rfl, ?_⟩
                     have n0_ := Aside0.mk (Kd.R_below (by (with_reducible repeat (first | apply Kd.R_alloc | apply Kd.R_drewN | apply Kd.R_drew)); exact HO_4.out) hb)
                     have n1_ := Aside0.mk (Kd.R_below (by (with_reducible repeat (first | apply Kd.R_alloc | apply Kd.R_drewN | apply Kd.R_drew)); exact HO_7.out) hb)
                     have n2_ := Aside0.mk (Kd.R_below (by (with_reducible repeat (first | apply Kd.R_alloc | apply Kd.R_drewN | apply Kd.R_drew)); exact HO_9.out) hb)
                     have n3_ := Aside0.mk (Kd.R_below (by (with_reducible repeat (first | apply Kd.R_alloc | apply Kd.R_drewN | apply Kd.R_drew)); exact HO_11.out) hb)
                     have n4_ := Aside0.mk (Kd.R_below (by (with_reducible repeat (first | apply Kd.R_alloc | apply Kd.R_drewN | apply Kd.R_drew)); exact HO_12.out) hb)
                     have n5_ := Aside0.mk (blk_below (g := gb254) (o := .cells #[.float .f64 t247, .float .f64 t248] 35 (0, 0)) (by (with_reducible repeat (first | refine blk_drewN ?_ _ | refine blk_drew ?_ | refine blk_alloc ?_ _)); exact BK254.out) hb)
                     have n6_ := Aside0.mk (Kd.C_below (by (first | (with_reducible exact HR271.out) | (with_reducible exact Kd.C_drewN HR271.out _) | (with_reducible exact Kd.C_drew HR271.out) | skip); repeat (first | (with_reducible exact HR271.out) | (with_reducible refine Kd.C_alloc ?_ _) | (with_reducible refine Kd.C_drewN ?_ _) | (with_reducible refine Kd.C_drew ?_) | exact HR271.out)) hb)
                     have n7_ := Aside0.mk (Kd.C_below (by (first | (with_reducible exact HR278.out) | (with_reducible exact Kd.C_drewN HR278.out _) | (with_reducible exact Kd.C_drew HR278.out) | skip); repeat (first | (with_reducible exact HR278.out) | (with_reducible refine Kd.C_alloc ?_ _) | (with_reducible refine Kd.C_drewN ?_ _) | (with_reducible refine Kd.C_drew ?_) | exact HR278.out)) hb)
                     have n8_ := Aside0.mk (below_step (by repeat (first | (with_reducible first | exact HB.out | apply below_alloc | apply pw_below_drewN | apply below_drew1 | refine below_set ?_ GE254.out) | exact HB.out)) hb)
                     clear HO_4
                     clear HO_7
                     clear HO_9
                     clear HO_11
                     clear HO_12
                     clear BK254
                     clear HR271
                     clear HR278
                     clear HB
                     have HO_4 := n0_
                     have HO_7 := n1_
                     have HO_9 := n2_
                     have HO_11 := n3_
                     have HO_12 := n4_
                     have BK254 := n5_
                     have HR271 := n6_
                     have HR278 := n7_
                     have HB := n8_
                     clear n0_ n1_ n2_ n3_ n4_ n5_ n6_ n7_ n8_
                     (try clear hb)
                     (try clear hb2)
                     (try clear hk)
                     (try clear hi)
                     refine hK.out _ _ ⟨(blk_cell BK254.out 0).trans rfl, (blk_cell BK254.out 1).trans rfl, HS2_⟩ (fun hHeld => ?_)
                     clear hK K
                     refine norm_ (a' := ?_) ?_ ?_
                     rotate_left
                     ·show Act.put _ (some 137) _ = _
                      simp only [Act.put, List.setIfInBounds_toArray, List.set_cons_zero, List.set_cons_succ, i64_w, i32_w]
                      rfl
                     refine pure_ (i := 8) (N := some 15) (v := ?_) (a' := ?_) #[true, true, true, true, true, true, true, true, true] rfl rfl (any_of HT_.out (by kernel_rfl)) (fun _ _ _ h => h) (Or.inl ⟨by rfl, ?_⟩) ?_ ?_
                     rotate_left
                     ·intro w'
                      go_simp
                      with_reducible rfl
                     rotate_left
                     ·simp only [Act.put, List.setIfInBounds_toArray, List.set_cons_zero, List.set_cons_succ, i64_w, i32_w]
                      rfl
                     refine done_ (done_of HT_.out (by kernel_rfl)) ?_
                     try go_wp2
                     have n0_ := Aside0.mk (Kd.R_drew HO_4.out)
                     have n1_ := Aside0.mk (Kd.R_drew HO_7.out)
                     have n2_ := Aside0.mk (Kd.R_drew HO_9.out)
                     have n3_ := Aside0.mk (Kd.R_drew HO_11.out)
                     have n4_ := Aside0.mk (Kd.R_drew HO_12.out)
                     have n5_ := Aside0.mk (blk_drew BK254.out)
                     have n6_ := Aside0.mk (Kd.C_drew HR271.out)
                     have n7_ := Aside0.mk (Kd.C_drew HR278.out)
                     have n8_ := Aside0.mk (below_drew1 HB.out)
                     clear HO_4
                     clear HO_7
                     clear HO_9
                     clear HO_11
                     clear HO_12
                     clear BK254
                     clear HR271
                     clear HR278
                     clear HB
                     have HO_4 := n0_
                     have HO_7 := n1_
                     have HO_9 := n2_
                     have HO_11 := n3_
                     have HO_12 := n4_
                     have BK254 := n5_
                     have HR271 := n6_
                     have HR278 := n7_
                     have HB := n8_
                     clear n0_ n1_ n2_ n3_ n4_ n5_ n6_ n7_ n8_
                     have p290 : 0 ≤ (0 : Int) := (by omega)
                     have q290 : 0 < (t263.length : Int) := of_decide_eq_true (by first | (with_reducible assumption) | assumption)
                     obtain ⟨ad290, e290, hx290_0⟩ := Kd.at_f64 (Kd.R_reads' HO_9.out).2.2 0 p290 q290
                     obtain rfl : ad267 = ad290 := (by injection e290)
                     have qi290 : (0 < t263.length) = True := eq_true (by omega)
                     (try rw [show ((0 : Int)).toNat = 0 from rfl] at hx290_0)
                     (try rw [Addr.add_zero'] at hx290_0)
                     replace p290 := eq_true p290
                     replace q290 := eq_true q290
                     have p292 : 0 ≤ (0 : Int) := (by omega)
                     have q292 : 0 < (x7_1.length : Int) := of_decide_eq_true (by first | (with_reducible assumption) | assumption)
                     obtain ⟨ad292, e292, hx292_0⟩ := Kd.at_f64 (Kd.R_reads' HO_7.out).2.2 0 p292 q292
                     obtain rfl : ad288 = ad292 := (by injection e292)
                     have qi292 : (0 < x7_1.length) = True := eq_true (by omega)
                     (try rw [show ((0 : Int)).toNat = 0 from rfl] at hx292_0)
                     (try rw [Addr.add_zero'] at hx292_0)
                     replace p292 := eq_true p292
                     replace q292 := eq_true q292
                     have p295 : 0 ≤ (0 : Int) := (by omega)
                     have q295 : 0 < (x7_1.length : Int) := of_decide_eq_true (by first | (with_reducible assumption) | assumption)
                     obtain ⟨ad295, e295, hx295_0⟩ := Kd.at_f64 (Kd.R_reads' HO_7.out).2.2 0 p295 q295
                     obtain rfl : ad288 = ad295 := (by injection e295)
                     have qi295 : (0 < x7_1.length) = True := eq_true (by omega)
                     (try rw [show ((0 : Int)).toNat = 0 from rfl] at hx295_0)
                     (try rw [Addr.add_zero'] at hx295_0)
                     replace p295 := eq_true p295
                     replace q295 := eq_true q295
                     refine start_ (n := 29) (S := fun w' => w'.cell? ⟨gb254, 0, none⟩ = some (.float .f64 t247) ∧ w'.cell? ⟨gb254, 1, none⟩ = some (.float .f64 t248) ∧ w'.cell? ad267 = some (.float .f64 (rdOf (0 : Nat) t263 0)) ∧ w'.cell? ad288 = some (.float .f64 (rdOf (0 : Nat) x7_1 0)) ∧ w'.cell? ad288 = some (.float .f64 (rdOf (0 : Nat) x7_1 0))) (ds := []) #[false, false, false, false, false, false, false, false, false, false, false, false, false, false, false, false, false, false, false, false, false, false, false, false, false, false, false, false, false] (by kernel_rfl) rfl rfl ⟨(blk_cell BK254.out 0).trans rfl, (blk_cell BK254.out 1).trans rfl, hx290_0, hx292_0, hx295_0⟩ (fun hHeld => ?_); refine with_tabW laws_FnRide.tab27 laws_FnRide.bits27 (fun HT_ HW_ => ?_)
                     generalize w73.drew = w74 at HO_4 HO_7 HO_9 HO_11 HO_12 BK254 HR271 HR278 HB hx290_0 hx292_0 hx295_0 hHeld ⊢
                     refine pure_ (i := 0) (N := some 138) (v := ?_) (a' := ?_) #[true, false, false, false, false, false, false, false, false, false, false, false, false, false, false, false, false, false, false, false, false, false, false, false, false, false, false, false, false] rfl rfl (any_of HT_.out (by kernel_rfl)) (fun _ _ _ h => h) (Or.inl ⟨by rfl, ?_⟩) ?_ ?_
                     rotate_left
                     ·intro w'
                      go_simp
                      with_reducible rfl
                     rotate_left
                     ·simp only [Act.put, List.setIfInBounds_toArray, List.set_cons_zero, List.set_cons_succ, i64_w, i32_w]
                      rfl
                     refine pure_ (i := 1) (N := some 139) (v := ?_) (a' := ?_) #[true, true, false, false, false, false, false, false, false, false, false, false, false, false, false, false, false, false, false, false, false, false, false, false, false, false, false, false, false] rfl rfl (any_of HT_.out (by kernel_rfl)) (fun _ _ _ h => h) (Or.inl ⟨by rfl, ?_⟩) ?_ ?_
                     rotate_left
                     ·intro w'
                      go_simp
                      with_reducible rfl
                     rotate_left
                     ·simp only [Act.put, List.setIfInBounds_toArray, List.set_cons_zero, List.set_cons_succ, i64_w, i32_w]
                      rfl
                     refine pure_ (i := 2) (N := some 140) (v := ?_) (a' := ?_) #[true, true, true, false, false, false, false, false, false, false, false, false, false, false, false, false, false, false, false, false, false, false, false, false, false, false, false, false, false] rfl rfl (any_of HT_.out (by kernel_rfl)) (fun _ _ _ h => h) (Or.inl ⟨by rfl, ?_⟩) ?_ ?_
                     rotate_left
                     ·intro w'
                      go_simp
                      with_reducible rfl
                     rotate_left
                     ·simp only [Act.put, List.setIfInBounds_toArray, List.set_cons_zero, List.set_cons_succ, i64_w, i32_w]
                      rfl
                     refine take_ (i := 3) (N := some 141) (v := ?_) (a' := ?_) #[true, true, true, true, false, false, false, false, false, false, false, false, false, false, false, false, false, false, false, false, false, false, false, false, false, false, false, false, false] rfl rfl (take_ofW HT_.out HW_.out (by kernel_rfl)) (fun _ _ _ h => h) (Or.inl ⟨by rfl, ?_⟩) hHeld ?_ ?_
                     rotate_left
                     ·rintro w' ⟨s0, s1, s2, s3, s4⟩
                      go_simp
                      with_reducible rfl
                     rotate_left
                     ·simp only [Act.put, List.setIfInBounds_toArray, List.set_cons_zero, List.set_cons_succ, i64_w, i32_w]
                      rfl
                     refine one_ (i := 4) (N := some 142) #[true, true, true, true, true, false, false, false, false, false, false, false, false, false, false, false, false, false, false, false, false, false, false, false, false, false, false, false, false] rfl rfl (one_of HT_.out (by kernel_rfl)) (by decide) (fun K hK => ?_)
                     refine goes_ Try.func14 (by kernel_rfl) rfl #[.float .f64 t289, .float .f64 (rdOf (0 : Nat) t263 0)] (by rfl) rfl rfl (by (try simp only [List.map_toArray, List.map_cons, List.map_nil]); first | done | rfl | (simp only [List.length_drop, List.length_take]; rfl)) ?_
                     with_reducible refine (laws_sameBits.calls k3 t289 (rdOf (0 : Nat) t263 0) true _ A66.out).mono ?_
                     rintro e w' ⟨rfl, ⟨nd, rfl⟩⟩
                     refine ⟨_, rfl, ?_⟩
                     refine hK.out _ _ ⟨(blk_cell BK254.out 0).trans rfl, (blk_cell BK254.out 1).trans rfl, hHeld.2.2.1, hHeld.2.2.2.1, hHeld.2.2.2.2⟩ (fun hHeld => ?_)
                     clear hK K
                     refine norm_ (a' := ?_) ?_ ?_
                     rotate_left
                     ·show Act.put _ (some 142) _ = _
                      simp only [Act.put, List.setIfInBounds_toArray, List.set_cons_zero, List.set_cons_succ, i64_w, i32_w]
                      rfl
                     refine pure_ (i := 5) (N := some 143) (v := ?_) (a' := ?_) #[true, true, true, true, true, true, false, false, false, false, false, false, false, false, false, false, false, false, false, false, false, false, false, false, false, false, false, false, false] rfl rfl (any_of HT_.out (by kernel_rfl)) (fun _ _ _ h => h) (Or.inl ⟨by rfl, ?_⟩) ?_ ?_
                     rotate_left
                     ·intro w'
                      go_simp
                      with_reducible rfl
                     rotate_left
                     ·simp only [Act.put, List.setIfInBounds_toArray, List.set_cons_zero, List.set_cons_succ, i64_w, i32_w]
                      rfl
                     refine pure_ (i := 6) (N := some 144) (v := ?_) (a' := ?_) #[true, true, true, true, true, true, true, false, false, false, false, false, false, false, false, false, false, false, false, false, false, false, false, false, false, false, false, false, false] rfl rfl (any_of HT_.out (by kernel_rfl)) (fun _ _ _ h => h) (Or.inl ⟨by rfl, ?_⟩) ?_ ?_
                     rotate_left
                     ·intro w'
                      go_simp
                      with_reducible rfl
                     rotate_left
                     ·simp only [Act.put, List.setIfInBounds_toArray, List.set_cons_zero, List.set_cons_succ, i64_w, i32_w]
                      rfl
                     refine pure_ (i := 8) (N := some 146) (v := ?_) (a' := ?_) #[true, true, true, true, true, true, true, false, true, false, false, false, false, false, false, false, false, false, false, false, false, false, false, false, false, false, false, false, false] rfl rfl (any_of HT_.out (by kernel_rfl)) (fun _ _ _ h => h) (Or.inl ⟨by rfl, ?_⟩) ?_ ?_
                     rotate_left
                     ·intro w'
                      go_simp
                      with_reducible rfl
                     rotate_left
                     ·simp only [Act.put, List.setIfInBounds_toArray, List.set_cons_zero, List.set_cons_succ, i64_w, i32_w]
                      rfl
                     refine pure_ (i := 9) (N := some 147) (v := ?_) (a' := ?_) #[true, true, true, true, true, true, true, false, true, true, false, false, false, false, false, false, false, false, false, false, false, false, false, false, false, false, false, false, false] rfl rfl (any_of HT_.out (by kernel_rfl)) (fun _ _ _ h => h) (Or.inl ⟨by rfl, ?_⟩) ?_ ?_
                     rotate_left
                     ·intro w'
                      go_simp
                      with_reducible rfl
                     rotate_left
                     ·simp only [Act.put, List.setIfInBounds_toArray, List.set_cons_zero, List.set_cons_succ, i64_w, i32_w]
                      rfl
                     refine pure_ (i := 10) (N := some 148) (v := ?_) (a' := ?_) #[true, true, true, true, true, true, true, false, true, true, true, false, false, false, false, false, false, false, false, false, false, false, false, false, false, false, false, false, false] rfl rfl (any_of HT_.out (by kernel_rfl)) (fun _ _ _ h => h) (Or.inl ⟨by rfl, ?_⟩) ?_ ?_
                     rotate_left
                     ·intro w'
                      go_simp
                      with_reducible rfl
                     rotate_left
                     ·simp only [Act.put, List.setIfInBounds_toArray, List.set_cons_zero, List.set_cons_succ, i64_w, i32_w]
                      rfl
                     refine pure_ (i := 11) (N := some 149) (v := ?_) (a' := ?_) #[true, true, true, true, true, true, true, false, true, true, true, true, false, false, false, false, false, false, false, false, false, false, false, false, false, false, false, false, false] rfl rfl (any_of HT_.out (by kernel_rfl)) (fun _ _ _ h => h) (Or.inl ⟨by rfl, ?_⟩) ?_ ?_
                     rotate_left
                     ·intro w'
                      go_simp
                      with_reducible rfl
                     rotate_left
                     ·simp only [Act.put, List.setIfInBounds_toArray, List.set_cons_zero, List.set_cons_succ, i64_w, i32_w]
                      rfl
                     refine pure_ (i := 13) (N := some 151) (v := ?_) (a' := ?_) #[true, true, true, true, true, true, true, false, true, true, true, true, false, true, false, false, false, false, false, false, false, false, false, false, false, false, false, false, false] rfl rfl (any_of HT_.out (by kernel_rfl)) (fun _ _ _ h => h) (Or.inl ⟨by rfl, ?_⟩) ?_ ?_
                     rotate_left
                     ·intro w'
                      go_simp
                      with_reducible rfl
                     rotate_left
                     ·simp only [Act.put, List.setIfInBounds_toArray, List.set_cons_zero, List.set_cons_succ, i64_w, i32_w]
                      rfl
                     refine take_ (i := 7) (N := some 145) (v := ?_) (a' := ?_) #[true, true, true, true, true, true, true, true, true, true, true, true, false, true, false, false, false, false, false, false, false, false, false, false, false, false, false, false, false] rfl rfl (take_ofW HT_.out HW_.out (by kernel_rfl)) (fun _ _ _ h => h) (Or.inl ⟨by rfl, ?_⟩) hHeld ?_ ?_
                     rotate_left
                     ·rintro w' ⟨s0, s1, s2, s3, s4⟩
                      go_simp
                      with_reducible rfl
                     rotate_left
                     ·simp only [Act.put, List.setIfInBounds_toArray, List.set_cons_zero, List.set_cons_succ, i64_w, i32_w]
                      rfl
                     refine take_ (i := 12) (N := some 150) (v := ?_) (a' := ?_) #[true, true, true, true, true, true, true, true, true, true, true, true, true, true, false, false, false, false, false, false, false, false, false, false, false, false, false, false, false] rfl rfl (take_ofW HT_.out HW_.out (by kernel_rfl)) (fun _ _ _ h => h) (Or.inl ⟨by rfl, ?_⟩) hHeld ?_ ?_
                     rotate_left
                     ·rintro w' ⟨s0, s1, s2, s3, s4⟩
                      go_simp
                      with_reducible rfl
                     rotate_left
                     ·simp only [Act.put, List.setIfInBounds_toArray, List.set_cons_zero, List.set_cons_succ, i64_w, i32_w]
                      rfl
                     refine one_ (i := 14) (N := some 152) #[true, true, true, true, true, true, true, true, true, true, true, true, true, true, true, false, false, false, false, false, false, false, false, false, false, false, false, false, false] rfl rfl (one_of HT_.out (by kernel_rfl)) (by decide) (fun K hK => ?_)
                     refine goes_ Try.func17 (by kernel_rfl) rfl #[.agg #[.float .f64 t247, .float .f64 t248], .slice Ao32 t249.length co32, .float .f64 t252, .float .f64 (rdOf (0 : Nat) x7_1 0), .float .f64 t253] (by rfl) rfl rfl (by (try simp only [List.map_toArray, List.map_cons, List.map_nil]); first | done | rfl | (simp only [List.length_drop, List.length_take]; rfl)) ?_
                     with_reducible refine (spec_Pull.calls k3 t247 t248 _ _ t249 t252 (rdOf (0 : Nat) x7_1 0) t253 t293 _ ?side1 ?side2 A68.out).mono ?_
                     (case side1 => repeat (first | exact (Kd.R_reads' HO_4.out).2.2 | (with_reducible refine Kd.C_alloc ?_ _) | (with_reducible refine Kd.C_drewN ?_ _) | (with_reducible refine Kd.C_drew ?_)))
                     (case side2 => exact (Kd.R_reads' HO_4.out).2.1)
                     rintro e w75 ⟨rfl, hb⟩
                     have HS2_ := (hb.cell (World.block_lt_of_cell? _ _ (hHeld.2.2.1))).trans (hHeld.2.2.1)
                     have HS3_ := (hb.cell (World.block_lt_of_cell? _ _ (hHeld.2.2.2.1))).trans (hHeld.2.2.2.1)
                     have HS4_ := (hb.cell (World.block_lt_of_cell? _ _ (hHeld.2.2.2.2))).trans (hHeld.2.2.2.2)
                     refine ⟨_, rfl, ?_⟩
                     have n0_ := Aside0.mk (Kd.R_below (by (with_reducible repeat (first | apply Kd.R_alloc | apply Kd.R_drewN | apply Kd.R_drew)); exact HO_4.out) hb)
                     have n1_ := Aside0.mk (Kd.R_below (by (with_reducible repeat (first | apply Kd.R_alloc | apply Kd.R_drewN | apply Kd.R_drew)); exact HO_7.out) hb)
                     have n2_ := Aside0.mk (Kd.R_below (by (with_reducible repeat (first | apply Kd.R_alloc | apply Kd.R_drewN | apply Kd.R_drew)); exact HO_9.out) hb)
                     have n3_ := Aside0.mk (Kd.R_below (by (with_reducible repeat (first | apply Kd.R_alloc | apply Kd.R_drewN | apply Kd.R_drew)); exact HO_11.out) hb)
                     have n4_ := Aside0.mk (Kd.R_below (by (with_reducible repeat (first | apply Kd.R_alloc | apply Kd.R_drewN | apply Kd.R_drew)); exact HO_12.out) hb)
                     have n5_ := Aside0.mk (blk_below (g := gb254) (o := .cells #[.float .f64 t247, .float .f64 t248] 35 (0, 0)) (by (with_reducible repeat (first | refine blk_drewN ?_ _ | refine blk_drew ?_ | refine blk_alloc ?_ _)); exact BK254.out) hb)
                     have n6_ := Aside0.mk (Kd.C_below (by (first | (with_reducible exact HR271.out) | (with_reducible exact Kd.C_drewN HR271.out _) | (with_reducible exact Kd.C_drew HR271.out) | skip); repeat (first | (with_reducible exact HR271.out) | (with_reducible refine Kd.C_alloc ?_ _) | (with_reducible refine Kd.C_drewN ?_ _) | (with_reducible refine Kd.C_drew ?_) | exact HR271.out)) hb)
                     have n7_ := Aside0.mk (Kd.C_below (by (first | (with_reducible exact HR278.out) | (with_reducible exact Kd.C_drewN HR278.out _) | (with_reducible exact Kd.C_drew HR278.out) | skip); repeat (first | (with_reducible exact HR278.out) | (with_reducible refine Kd.C_alloc ?_ _) | (with_reducible refine Kd.C_drewN ?_ _) | (with_reducible refine Kd.C_drew ?_) | exact HR278.out)) hb)
                     have n8_ := Aside0.mk (below_step (by repeat (first | (with_reducible first | exact HB.out | apply below_alloc | apply pw_below_drewN | apply below_drew1 | refine below_set ?_ GE254.out) | exact HB.out)) hb)
                     clear HO_4
                     clear HO_7
                     clear HO_9
                     clear HO_11
                     clear HO_12
                     clear BK254
                     clear HR271
                     clear HR278
                     clear HB
                     have HO_4 := n0_
                     have HO_7 := n1_
                     have HO_9 := n2_
                     have HO_11 := n3_
                     have HO_12 := n4_
                     have BK254 := n5_
                     have HR271 := n6_
                     have HR278 := n7_
                     have HB := n8_
                     clear n0_ n1_ n2_ n3_ n4_ n5_ n6_ n7_ n8_
                     (try clear hb)
                     (try clear hb2)
                     (try clear hk)
                     (try clear hi)
                     refine hK.out _ _ ⟨(blk_cell BK254.out 0).trans rfl, (blk_cell BK254.out 1).trans rfl, HS2_, HS3_, HS4_⟩ (fun hHeld => ?_)
                     clear hK K
                     refine norm_ (a' := ?_) ?_ ?_
                     rotate_left
                     ·show Act.put _ (some 152) _ = _
                      simp only [Act.put, List.setIfInBounds_toArray, List.set_cons_zero, List.set_cons_succ, i64_w, i32_w]
                      rfl
                     refine one_ (i := 15) (N := some 153) #[true, true, true, true, true, true, true, true, true, true, true, true, true, true, true, true, false, false, false, false, false, false, false, false, false, false, false, false, false] rfl rfl (one_of HT_.out (by kernel_rfl)) (by decide) (fun K hK => ?_)
                     refine goes_ Try.func14 (by kernel_rfl) rfl #[.float .f64 t289, .float .f64 t293] (by rfl) rfl rfl (by (try simp only [List.map_toArray, List.map_cons, List.map_nil]); first | done | rfl | (simp only [List.length_drop, List.length_take]; rfl)) ?_
                     with_reducible refine (laws_sameBits.calls k3 t289 t293 true _ A69.out).mono ?_
                     rintro e w' ⟨rfl, ⟨nd, rfl⟩⟩
                     refine ⟨_, rfl, ?_⟩
                     refine hK.out _ _ ⟨(blk_cell BK254.out 0).trans rfl, (blk_cell BK254.out 1).trans rfl, hHeld.2.2.1, hHeld.2.2.2.1, hHeld.2.2.2.2⟩ (fun hHeld => ?_)
                     clear hK K
                     refine norm_ (a' := ?_) ?_ ?_
                     rotate_left
                     ·show Act.put _ (some 153) _ = _
                      simp only [Act.put, List.setIfInBounds_toArray, List.set_cons_zero, List.set_cons_succ, i64_w, i32_w]
                      rfl
                     refine pure_ (i := 16) (N := some 154) (v := ?_) (a' := ?_) #[true, true, true, true, true, true, true, true, true, true, true, true, true, true, true, true, true, false, false, false, false, false, false, false, false, false, false, false, false] rfl rfl (any_of HT_.out (by kernel_rfl)) (fun _ _ _ h => h) (Or.inl ⟨by rfl, ?_⟩) ?_ ?_
                     rotate_left
                     ·intro w'
                      go_simp
                      with_reducible rfl
                     rotate_left
                     ·simp only [Act.put, List.setIfInBounds_toArray, List.set_cons_zero, List.set_cons_succ, i64_w, i32_w]
                      rfl
                     refine pure_ (i := 17) (N := some 155) (v := ?_) (a' := ?_) #[true, true, true, true, true, true, true, true, true, true, true, true, true, true, true, true, true, true, false, false, false, false, false, false, false, false, false, false, false] rfl rfl (any_of HT_.out (by kernel_rfl)) (fun _ _ _ h => h) (Or.inl ⟨by rfl, ?_⟩) ?_ ?_
                     rotate_left
                     ·intro w'
                      go_simp
                      with_reducible rfl
                     rotate_left
                     ·simp only [Act.put, List.setIfInBounds_toArray, List.set_cons_zero, List.set_cons_succ, i64_w, i32_w]
                      rfl
                     refine pure_ (i := 19) (N := some 157) (v := ?_) (a' := ?_) #[true, true, true, true, true, true, true, true, true, true, true, true, true, true, true, true, true, true, false, true, false, false, false, false, false, false, false, false, false] rfl rfl (any_of HT_.out (by kernel_rfl)) (fun _ _ _ h => h) (Or.inl ⟨by rfl, ?_⟩) ?_ ?_
                     rotate_left
                     ·intro w'
                      go_simp
                      with_reducible rfl
                     rotate_left
                     ·simp only [Act.put, List.setIfInBounds_toArray, List.set_cons_zero, List.set_cons_succ, i64_w, i32_w]
                      rfl
                     refine pure_ (i := 20) (N := some 158) (v := ?_) (a' := ?_) #[true, true, true, true, true, true, true, true, true, true, true, true, true, true, true, true, true, true, false, true, true, false, false, false, false, false, false, false, false] rfl rfl (any_of HT_.out (by kernel_rfl)) (fun _ _ _ h => h) (Or.inl ⟨by rfl, ?_⟩) ?_ ?_
                     rotate_left
                     ·intro w'
                      go_simp
                      with_reducible rfl
                     rotate_left
                     ·simp only [Act.put, List.setIfInBounds_toArray, List.set_cons_zero, List.set_cons_succ, i64_w, i32_w]
                      rfl
                     refine pure_ (i := 21) (N := some 159) (v := ?_) (a' := ?_) #[true, true, true, true, true, true, true, true, true, true, true, true, true, true, true, true, true, true, false, true, true, true, false, false, false, false, false, false, false] rfl rfl (any_of HT_.out (by kernel_rfl)) (fun _ _ _ h => h) (Or.inl ⟨by rfl, ?_⟩) ?_ ?_
                     rotate_left
                     ·intro w'
                      go_simp
                      with_reducible rfl
                     rotate_left
                     ·simp only [Act.put, List.setIfInBounds_toArray, List.set_cons_zero, List.set_cons_succ, i64_w, i32_w]
                      rfl
                     refine pure_ (i := 22) (N := some 160) (v := ?_) (a' := ?_) #[true, true, true, true, true, true, true, true, true, true, true, true, true, true, true, true, true, true, false, true, true, true, true, false, false, false, false, false, false] rfl rfl (any_of HT_.out (by kernel_rfl)) (fun _ _ _ h => h) (Or.inl ⟨by rfl, ?_⟩) ?_ ?_
                     rotate_left
                     ·intro w'
                      go_simp
                      with_reducible rfl
                     rotate_left
                     ·simp only [Act.put, List.setIfInBounds_toArray, List.set_cons_zero, List.set_cons_succ, i64_w, i32_w]
                      rfl
                     refine pure_ (i := 25) (N := some 163) (v := ?_) (a' := ?_) #[true, true, true, true, true, true, true, true, true, true, true, true, true, true, true, true, true, true, false, true, true, true, true, false, false, true, false, false, false] rfl rfl (any_of HT_.out (by kernel_rfl)) (fun _ _ _ h => h) (Or.inl ⟨by rfl, ?_⟩) ?_ ?_
                     rotate_left
                     ·intro w'
                      go_simp
                      with_reducible rfl
                     rotate_left
                     ·simp only [Act.put, List.setIfInBounds_toArray, List.set_cons_zero, List.set_cons_succ, i64_w, i32_w]
                      rfl
                     refine take_ (i := 18) (N := some 156) (v := ?_) (a' := ?_) #[true, true, true, true, true, true, true, true, true, true, true, true, true, true, true, true, true, true, true, true, true, true, true, false, false, true, false, false, false] rfl rfl (take_ofW HT_.out HW_.out (by kernel_rfl)) (fun _ _ _ h => h) (Or.inl ⟨by rfl, ?_⟩) hHeld ?_ ?_
                     rotate_left
                     ·rintro w' ⟨s0, s1, s2, s3, s4⟩
                      go_simp
                      with_reducible rfl
                     rotate_left
                     ·simp only [Act.put, List.setIfInBounds_toArray, List.set_cons_zero, List.set_cons_succ, i64_w, i32_w]
                      rfl
                     refine take_ (i := 23) (N := some 161) (v := ?_) (a' := ?_) #[true, true, true, true, true, true, true, true, true, true, true, true, true, true, true, true, true, true, true, true, true, true, true, true, false, true, false, false, false] rfl rfl (take_ofW HT_.out HW_.out (by kernel_rfl)) (fun _ _ _ h => h) (Or.inl ⟨by rfl, ?_⟩) hHeld ?_ ?_
                     rotate_left
                     ·rintro w' ⟨s0, s1, s2, s3, s4⟩
                      go_simp
                      with_reducible rfl
                     rotate_left
                     ·simp only [Act.put, List.setIfInBounds_toArray, List.set_cons_zero, List.set_cons_succ, i64_w, i32_w]
                      rfl
                     refine one_ (i := 24) (N := some 162) #[true, true, true, true, true, true, true, true, true, true, true, true, true, true, true, true, true, true, true, true, true, true, true, true, true, true, false, false, false] rfl rfl (one_of HT_.out (by kernel_rfl)) (by decide) (fun K hK => ?_)
                     refine goes_ Try.func16 (by kernel_rfl) rfl #[.agg #[.float .f64 t247, .float .f64 t248], .slice Ao32 t249.length co32, .float .f64 t252, .float .f64 (rdOf (0 : Nat) x7_1 0), .float .f64 (0 : Nat)] (by rfl) rfl rfl (by (try simp only [List.map_toArray, List.map_cons, List.map_nil]); first | done | rfl | (simp only [List.length_drop, List.length_take]; rfl)) ?_
                     with_reducible refine (impl_Pull.calls k3 t247 t248 _ _ t249 t252 (rdOf (0 : Nat) x7_1 0) (0 : Nat) t296 _ ?side1 ?side2 A71.out).mono ?_
                     (case side1 => repeat (first | exact (Kd.R_reads' HO_4.out).2.2 | (with_reducible refine Kd.C_alloc ?_ _) | (with_reducible refine Kd.C_drewN ?_ _) | (with_reducible refine Kd.C_drew ?_)))
                     (case side2 => exact (Kd.R_reads' HO_4.out).2.1)
                     rintro e w76 ⟨rfl, hb⟩
                     have HS2_ := (hb.cell (World.block_lt_of_cell? _ _ (hHeld.2.2.1))).trans (hHeld.2.2.1)
                     have HS3_ := (hb.cell (World.block_lt_of_cell? _ _ (hHeld.2.2.2.1))).trans (hHeld.2.2.2.1)
                     have HS4_ := (hb.cell (World.block_lt_of_cell? _ _ (hHeld.2.2.2.2))).trans (hHeld.2.2.2.2)
                     refine ⟨_, rfl, ?_⟩
                     have n0_ := Aside0.mk (Kd.R_below (by (with_reducible repeat (first | apply Kd.R_alloc | apply Kd.R_drewN | apply Kd.R_drew)); exact HO_4.out) hb)
                     have n1_ := Aside0.mk (Kd.R_below (by (with_reducible repeat (first | apply Kd.R_alloc | apply Kd.R_drewN | apply Kd.R_drew)); exact HO_7.out) hb)
                     have n2_ := Aside0.mk (Kd.R_below (by (with_reducible repeat (first | apply Kd.R_alloc | apply Kd.R_drewN | apply Kd.R_drew)); exact HO_9.out) hb)
                     have n3_ := Aside0.mk (Kd.R_below (by (with_reducible repeat (first | apply Kd.R_alloc | apply Kd.R_drewN | apply Kd.R_drew)); exact HO_11.out) hb)
                     have n4_ := Aside0.mk (Kd.R_below (by (with_reducible repeat (first | apply Kd.R_alloc | apply Kd.R_drewN | apply Kd.R_drew)); exact HO_12.out) hb)
                     have n5_ := Aside0.mk (blk_below (g := gb254) (o := .cells #[.float .f64 t247, .float .f64 t248] 35 (0, 0)) (by (with_reducible repeat (first | refine blk_drewN ?_ _ | refine blk_drew ?_ | refine blk_alloc ?_ _)); exact BK254.out) hb)
                     have n6_ := Aside0.mk (Kd.C_below (by (first | (with_reducible exact HR271.out) | (with_reducible exact Kd.C_drewN HR271.out _) | (with_reducible exact Kd.C_drew HR271.out) | skip); repeat (first | (with_reducible exact HR271.out) | (with_reducible refine Kd.C_alloc ?_ _) | (with_reducible refine Kd.C_drewN ?_ _) | (with_reducible refine Kd.C_drew ?_) | exact HR271.out)) hb)
                     have n7_ := Aside0.mk (Kd.C_below (by (first | (with_reducible exact HR278.out) | (with_reducible exact Kd.C_drewN HR278.out _) | (with_reducible exact Kd.C_drew HR278.out) | skip); repeat (first | (with_reducible exact HR278.out) | (with_reducible refine Kd.C_alloc ?_ _) | (with_reducible refine Kd.C_drewN ?_ _) | (with_reducible refine Kd.C_drew ?_) | exact HR278.out)) hb)
                     have n8_ := Aside0.mk (below_step (by repeat (first | (with_reducible first | exact HB.out | apply below_alloc | apply pw_below_drewN | apply below_drew1 | refine below_set ?_ GE254.out) | exact HB.out)) hb)
                     clear HO_4
                     clear HO_7
                     clear HO_9
                     clear HO_11
                     clear HO_12
                     clear BK254
                     clear HR271
                     clear HR278
                     clear HB
                     have HO_4 := n0_
                     have HO_7 := n1_
                     have HO_9 := n2_
                     have HO_11 := n3_
                     have HO_12 := n4_
                     have BK254 := n5_
                     have HR271 := n6_
                     have HR278 := n7_
                     have HB := n8_
                     clear n0_ n1_ n2_ n3_ n4_ n5_ n6_ n7_ n8_
                     (try clear hb)
                     (try clear hb2)
                     (try clear hk)
                     (try clear hi)
                     refine hK.out _ _ ⟨(blk_cell BK254.out 0).trans rfl, (blk_cell BK254.out 1).trans rfl, HS2_, HS3_, HS4_⟩ (fun hHeld => ?_)
                     clear hK K
                     refine norm_ (a' := ?_) ?_ ?_
                     rotate_left
                     ·show Act.put _ (some 162) _ = _
                      simp only [Act.put, List.setIfInBounds_toArray, List.set_cons_zero, List.set_cons_succ, i64_w, i32_w]
                      rfl
                     refine pure_ (i := 26) (N := some 164) (v := ?_) (a' := ?_) #[true, true, true, true, true, true, true, true, true, true, true, true, true, true, true, true, true, true, true, true, true, true, true, true, true, true, true, false, false] rfl rfl (any_of HT_.out (by kernel_rfl)) (fun _ _ _ h => h) (Or.inl ⟨by rfl, ?_⟩) ?_ ?_
                     rotate_left
                     ·intro w'
                      go_simp
                      with_reducible rfl
                     rotate_left
                     ·simp only [Act.put, List.setIfInBounds_toArray, List.set_cons_zero, List.set_cons_succ, i64_w, i32_w]
                      rfl
                     refine pure_ (i := 27) (N := some 165) (v := ?_) (a' := ?_) #[true, true, true, true, true, true, true, true, true, true, true, true, true, true, true, true, true, true, true, true, true, true, true, true, true, true, true, true, false] rfl rfl (any_of HT_.out (by kernel_rfl)) (fun _ _ _ h => h) (Or.inl ⟨by rfl, ?_⟩) ?_ ?_
                     rotate_left
                     ·intro w'
                      go_simp
                      with_reducible rfl
                     rotate_left
                     ·simp only [Act.put, List.setIfInBounds_toArray, List.set_cons_zero, List.set_cons_succ, i64_w, i32_w]
                      rfl
                     refine pure_ (i := 28) (N := some 2) (v := ?_) (a' := ?_) #[true, true, true, true, true, true, true, true, true, true, true, true, true, true, true, true, true, true, true, true, true, true, true, true, true, true, true, true, true] rfl rfl (any_of HT_.out (by kernel_rfl)) (fun _ _ _ h => h) (Or.inl ⟨by rfl, ?_⟩) ?_ ?_
                     rotate_left
                     ·intro w'
                      go_simp
                      with_reducible rfl
                     rotate_left
                     ·simp only [Act.put, List.setIfInBounds_toArray, List.set_cons_zero, List.set_cons_succ, i64_w, i32_w]
                      rfl
                     refine done_ (done_of HT_.out (by kernel_rfl)) ?_
                     try go_wp2
                     go_ret
                     exact ⟨by first | rfl | (simp [errW_none, errW_some] <;> rfl) | (simp only [← hji20, ← hji23]; first | rfl | (simp [errW_none, errW_some] <;> rfl)) | (simp [*, errW_none, errW_some] <;> rfl), by repeat (first | (with_reducible first | exact HB.out | apply below_alloc | apply pw_below_drewN | apply below_drew1 | refine below_set ?_ GE254.out) | exact HB.out)⟩
                    ·replace c70 := Bool.eq_false_iff.mpr c70
                     subst c70
                     have H1 : (some false) = some true := by (first | (rw [if_neg (show ¬ (false = true) by decide)] at H; exact H) | rfl)
                     clear H
                     have H := H1
                     clear H1
                     exact absurd (Option.some.inj H) (by decide)
                   ·replace c67 := Bool.eq_false_iff.mpr c67
                    subst c67
                    have H1 : (some false) = some true := by (first | (rw [if_neg (show ¬ (false = true) by decide)] at H; exact H) | rfl)
                    clear H
                    have H := H1
                    clear H1
                    exact absurd (Option.some.inj H) (by decide)
                  ·rw [if_neg c65] at H
                   exact absurd H (by simp)
                 ·rw [if_neg c63] at H
                  exact absurd H (by simp)
          ·rw [if_neg c25] at H
           exact absurd H (by simp)
         ·rw [if_neg c24] at H
          exact absurd H (by simp)
        ·rw [if_neg c22] at H
         exact absurd H (by simp)
       ·rw [if_neg c21] at H
        exact absurd H (by simp)
      ·rw [if_neg c19] at H
       have c19b0 : ((t263.length : Int) == (x7_1.length : Int)) = false := beq_eq_false_iff_ne.mpr c19
       have c19b1 : ((t263.length : Int) != (x7_1.length : Int)) = true := bne_iff_ne.mpr c19
       have c19b2 : (t263.length == x7_1.length) = false := by first | simpa using c19 | (simp at c19 ⊢; omega)
       exact absurd (Option.some.inj H) (by decide)

/-- THE ONE PURE STATEMENT of laws_FnRide: yours. -/
def laws_FnRide.Pure : Prop := ∀ (l0 : List Int), l0.length ≤ maxLen → l0.length * 1 ≤ 140737488351232 → (∀ x ∈ l0, (Lit.int .u8 x).wf = true) → ∃ k, laws_FnRide.f k l0 = some true
theorem laws_FnRide.walk (P : laws_FnRide.Pure) (a0 : Option Addr) (len0 cap0 : Nat) (z0 : List Int) (w : World) (w0 : (a0 = none ∧ len0 = 0 ∧ cap0 = 0 ∧ z0 = []) ∨ ∃ x, a0 = some x ∧ len0 ≤ cap0 ∧ cap0 ≤ maxLen ∧ z0.length = cap0 ∧ (∀ i, i < z0.length → w.cell? (x.add i) = some (.int .u8 (z0.getD i 0))) ∧ ∀ n ∈ z0, (Lit.int .u8 n).wf = true) (y0 : len0 * 1 ≤ 140737488351232) :
  Calls Try.prog 4 #[.slice a0 len0 cap0] w fun e w' => e = .returned (.bool true) ∧ Below w.heap.size w w' := by
 obtain ⟨l0, rfl, hr0, hm0, hw0, hc0⟩ := ReadsInt.ofRowC w0
 obtain ⟨k, h⟩ := P l0 hm0 y0 hw0
 refine (laws_FnRide.calls k _ _ l0 w (Kd.C_of_reads (d := (0 : Int)) (h1 := fun _ => rfl) hr0) hc0 h).mono ?_
 rintro e w' ⟨rfl, hd⟩
 exact ⟨rfl, hd⟩

end Go.Proofs.Ytmbonjljbienkaa.PFnRide
