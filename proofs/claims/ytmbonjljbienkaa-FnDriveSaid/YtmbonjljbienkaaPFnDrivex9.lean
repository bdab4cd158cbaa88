-- Written by a program of this session (wip/tools/fltprint.py: the kit's printer, taught more).
import Derived.Test.YtmbonjljbienkaaPFnDrivex0
import Derived.Test.YtmbonjljbienkaaPFnDrivex1
import Derived.Test.YtmbonjljbienkaaPFnDrivex2
import Derived.Test.YtmbonjljbienkaaPFnDrivex3
import Derived.Test.YtmbonjljbienkaaPFnDrivex4
import Derived.Test.YtmbonjljbienkaaPFnDrivex8
namespace Go.Proofs.Ytmbonjljbienkaa.PFnDrive
open Go.RowKit Go.Proofs.YtmbonjljbienkaaW.PrintWords Go.Proofs.YtmbonjljbienkaaW.PrintLast Go.Proofs.YtmbonjljbienkaaW.PrintMore
attribute [local go_sem] max2_int min2_int max_two min_two max_three min_three max_four min_four   -- for this text's walks alone
set_option linter.unusedVariables false
set_option linter.unusedSimpArgs false

attribute [local go_sem high] eqA51
/-! ### laws_FnDrive: function 5 -/
mutual
def laws_FnDrive.j0 : Nat → List Int → Int → List (S51) → List Int → Int → List (S51) → Int → Bool → Option (Bool)
 | 0, _, _, _, _, _, _, _, _ => none
 | k + 1, x0, x3, x4, x5, x6, x7, x8, x67 => if x67 = true then (some false) else (if (x5.length : Int) > 0 then ((laws_at.f x0 5).bind fun t343 => (if (wrap64 ((x5.length : Int) + 1)) = 0 then (none) else (laws_FnDrive.j1 k x3 x4 x5 x6 x7 x8 (Int.tmod t343 (wrap64 ((x5.length : Int) + 1)))))) else (laws_FnDrive.j1 k x3 x4 x5 x6 x7 x8 0))
def laws_FnDrive.j1 : Nat → Int → List (S51) → List Int → Int → List (S51) → Int → Int → Option (Bool)
 | 0, _, _, _, _, _, _, _ => none
 | k + 1, x3, x4, x5, x6, x7, x8, x9 => if 0 ≤ x9 then (if x9 ≤ (x5.length : Int) then ((impl_Drive.f k x3 x4 (x5.take (x9 : Int).toNat) x6).bind fun bt348 => ((impl_Drive.f k x3 bt348.1 (x5.drop (x9 : Int).toNat) x6).bind fun bt356 => (if (wrap64 (bt348.2 + bt356.2)) = x8 then (laws_FnDrive.j2 k x3 x4 x5 x6 x7 bt356.1 ((bt356.1.length : Int) != (x7.length : Int))) else (laws_FnDrive.j2 k x3 x4 x5 x6 x7 bt356.1 true)))) else (none)) else (none)
def laws_FnDrive.j2 : Nat → Int → List (S51) → List Int → Int → List (S51) → List (S51) → Bool → Option (Bool)
 | 0, _, _, _, _, _, _, _ => none
 | k + 1, x3, x4, x5, x6, x7, x12, x108 => if x108 = true then (some false) else (laws_FnDrive.l0 k x3 x4 x5 x6 x7 x12 0)
def laws_FnDrive.l0 : Nat → Int → List (S51) → List Int → Int → List (S51) → List (S51) → Int → Option (Bool)
 | 0, _, _, _, _, _, _, _ => none
 | k + 1, x3, x4, x5, x6, x7, x12, x14 => if x14 < (x7.length : Int) then (if 0 ≤ x14 then (if x14 < (x12.length : Int) then (if (!(((rd_T51 x7 x14).f0) == ((rd_T51 x12 x14).f0)) || (!(((rd_T51 x7 x14).f1) == ((rd_T51 x12 x14).f1)))) = true then (some false) else (if x6 = 0 then (if x14 < (x4.length : Int) then (if ((rd_T51 x7 x14).f1) < ((rd_T51 x4 x14).f1) then (some false) else (if ((rd_T51 x7 x14).f0) < ((rd_T51 x4 x14).f0) then (some false) else (laws_FnDrive.l0 k x3 x4 x5 x6 x7 x12 (wrap64 (x14 + 1))))) else (none)) else (laws_FnDrive.l0 k x3 x4 x5 x6 x7 x12 (wrap64 (x14 + 1))))) else (none)) else (none)) else ((spec_Drive.f k x3 x4 x5 x6).bind fun bt366 => (some ((bt366.1.length : Int) == (x7.length : Int))))
end
def laws_FnDrive.f (k : Nat) (l0 : List Int) : Option (Bool) := (laws_big.f l0).bind fun t329 => (if t329 = true then (some true) else ((spec_DrawRightTrains.f k l0).bind fun bt330 => ((laws_at.f l0 4).bind fun t337 => ((impl_Drive.f k bt330.1 bt330.2.1 bt330.2.2 (Int.tmod t337 4)).bind fun bt338 => (if bt338.2 < 0 then (laws_FnDrive.j0 k l0 bt330.1 bt330.2.1 bt330.2.2 (Int.tmod t337 4) bt338.1 bt338.2 true) else (if bt338.2 > (bt330.2.2.length : Int) then (laws_FnDrive.j0 k l0 bt330.1 bt330.2.1 bt330.2.2 (Int.tmod t337 4) bt338.1 bt338.2 true) else ((impl_TrainsOk.f k bt330.1 bt338.1).bind fun t342 => (if t342 = true then (if (bt338.1.length : Int) > (bt330.2.1.length : Int) then (laws_FnDrive.j0 k l0 bt330.1 bt330.2.1 bt330.2.2 (Int.tmod t337 4) bt338.1 bt338.2 true) else (if (Int.tmod t337 4) = 0 then (laws_FnDrive.j0 k l0 bt330.1 bt330.2.1 bt330.2.2 (Int.tmod t337 4) bt338.1 bt338.2 ((bt338.1.length : Int) != (bt330.2.1.length : Int))) else (laws_FnDrive.j0 k l0 bt330.1 bt330.2.1 bt330.2.2 (Int.tmod t337 4) bt338.1 bt338.2 false))) else (laws_FnDrive.j0 k l0 bt330.1 bt330.2.1 bt330.2.2 (Int.tmod t337 4) bt338.1 bt338.2 true)))))))))
theorem laws_FnDrive.mono_l : ∀ k, (∀ y0 y1 y2 y3 y4 y5 y6 y7, LeO (laws_FnDrive.j0 k y0 y1 y2 y3 y4 y5 y6 y7) (laws_FnDrive.j0 (k + 1) y0 y1 y2 y3 y4 y5 y6 y7)) ∧ (∀ y0 y1 y2 y3 y4 y5 y6, LeO (laws_FnDrive.j1 k y0 y1 y2 y3 y4 y5 y6) (laws_FnDrive.j1 (k + 1) y0 y1 y2 y3 y4 y5 y6)) ∧ (∀ y0 y1 y2 y3 y4 y5 y6, LeO (laws_FnDrive.j2 k y0 y1 y2 y3 y4 y5 y6) (laws_FnDrive.j2 (k + 1) y0 y1 y2 y3 y4 y5 y6)) ∧ (∀ y0 y1 y2 y3 y4 y5 y6, LeO (laws_FnDrive.l0 k y0 y1 y2 y3 y4 y5 y6) (laws_FnDrive.l0 (k + 1) y0 y1 y2 y3 y4 y5 y6))
 | 0 => ⟨fun _ _ _ _ _ _ _ _ r h => by simp [laws_FnDrive.j0] at h, fun _ _ _ _ _ _ _ r h => by simp [laws_FnDrive.j1] at h, fun _ _ _ _ _ _ _ r h => by simp [laws_FnDrive.j2] at h, fun _ _ _ _ _ _ _ r h => by simp [laws_FnDrive.l0] at h⟩
 | k + 1 => by
  obtain ⟨ih0, ih1, ih2, ih3⟩ := laws_FnDrive.mono_l k
  refine ⟨?_, ?_, ?_, ?_⟩
  ·intro y0 y1 y2 y3 y4 y5 y6 y7
   unfold laws_FnDrive.j0
   repeat' first
   | (with_reducible exact ih0 _ _ _ _ _ _ _ _)
   | (with_reducible exact ih1 _ _ _ _ _ _ _)
   | (with_reducible exact ih2 _ _ _ _ _ _ _)
   | (with_reducible exact ih3 _ _ _ _ _ _ _)
   | (with_reducible exact impl_Drive.mono _ _ _ _ _)
   | (with_reducible exact impl_TrainsOk.mono _ _ _)
   | (with_reducible exact spec_DrawRightTrains.mono _ _)
   | (with_reducible exact spec_Drive.mono _ _ _ _ _)
   | (with_reducible exact LeO.refl _)
   | (with_reducible exact LeO.none _)
   | (with_reducible refine LeO.ite ?_ ?_)
   | (with_reducible refine LeO.bind ?_ (fun _ => ?_))
   | exact ih0 _ _ _ _ _ _ _ _
   | exact ih1 _ _ _ _ _ _ _
   | exact ih2 _ _ _ _ _ _ _
   | exact ih3 _ _ _ _ _ _ _
   | exact impl_Drive.mono _ _ _ _ _
   | exact impl_TrainsOk.mono _ _ _
   | exact spec_DrawRightTrains.mono _ _
   | exact spec_Drive.mono _ _ _ _ _
   | exact LeO.none _
   | refine LeO.ite ?_ ?_
   | refine LeO.bind ?_ (fun _ => ?_)
  ·intro y0 y1 y2 y3 y4 y5 y6
   unfold laws_FnDrive.j1
   repeat' first
   | (with_reducible exact ih0 _ _ _ _ _ _ _ _)
   | (with_reducible exact ih1 _ _ _ _ _ _ _)
   | (with_reducible exact ih2 _ _ _ _ _ _ _)
   | (with_reducible exact ih3 _ _ _ _ _ _ _)
   | (with_reducible exact impl_Drive.mono _ _ _ _ _)
   | (with_reducible exact impl_TrainsOk.mono _ _ _)
   | (with_reducible exact spec_DrawRightTrains.mono _ _)
   | (with_reducible exact spec_Drive.mono _ _ _ _ _)
   | (with_reducible exact LeO.refl _)
   | (with_reducible exact LeO.none _)
   | (with_reducible refine LeO.ite ?_ ?_)
   | (with_reducible refine LeO.bind ?_ (fun _ => ?_))
   | exact ih0 _ _ _ _ _ _ _ _
   | exact ih1 _ _ _ _ _ _ _
   | exact ih2 _ _ _ _ _ _ _
   | exact ih3 _ _ _ _ _ _ _
   | exact impl_Drive.mono _ _ _ _ _
   | exact impl_TrainsOk.mono _ _ _
   | exact spec_DrawRightTrains.mono _ _
   | exact spec_Drive.mono _ _ _ _ _
   | exact LeO.none _
   | refine LeO.ite ?_ ?_
   | refine LeO.bind ?_ (fun _ => ?_)
  ·intro y0 y1 y2 y3 y4 y5 y6
   unfold laws_FnDrive.j2
   repeat' first
   | (with_reducible exact ih0 _ _ _ _ _ _ _ _)
   | (with_reducible exact ih1 _ _ _ _ _ _ _)
   | (with_reducible exact ih2 _ _ _ _ _ _ _)
   | (with_reducible exact ih3 _ _ _ _ _ _ _)
   | (with_reducible exact impl_Drive.mono _ _ _ _ _)
   | (with_reducible exact impl_TrainsOk.mono _ _ _)
   | (with_reducible exact spec_DrawRightTrains.mono _ _)
   | (with_reducible exact spec_Drive.mono _ _ _ _ _)
   | (with_reducible exact LeO.refl _)
   | (with_reducible exact LeO.none _)
   | (with_reducible refine LeO.ite ?_ ?_)
   | (with_reducible refine LeO.bind ?_ (fun _ => ?_))
   | exact ih0 _ _ _ _ _ _ _ _
   | exact ih1 _ _ _ _ _ _ _
   | exact ih2 _ _ _ _ _ _ _
   | exact ih3 _ _ _ _ _ _ _
   | exact impl_Drive.mono _ _ _ _ _
   | exact impl_TrainsOk.mono _ _ _
   | exact spec_DrawRightTrains.mono _ _
   | exact spec_Drive.mono _ _ _ _ _
   | exact LeO.none _
   | refine LeO.ite ?_ ?_
   | refine LeO.bind ?_ (fun _ => ?_)
  ·intro y0 y1 y2 y3 y4 y5 y6
   unfold laws_FnDrive.l0
   repeat' first
   | (with_reducible exact ih0 _ _ _ _ _ _ _ _)
   | (with_reducible exact ih1 _ _ _ _ _ _ _)
   | (with_reducible exact ih2 _ _ _ _ _ _ _)
   | (with_reducible exact ih3 _ _ _ _ _ _ _)
   | (with_reducible exact impl_Drive.mono _ _ _ _ _)
   | (with_reducible exact impl_TrainsOk.mono _ _ _)
   | (with_reducible exact spec_DrawRightTrains.mono _ _)
   | (with_reducible exact spec_Drive.mono _ _ _ _ _)
   | (with_reducible exact LeO.refl _)
   | (with_reducible exact LeO.none _)
   | (with_reducible refine LeO.ite ?_ ?_)
   | (with_reducible refine LeO.bind ?_ (fun _ => ?_))
   | exact ih0 _ _ _ _ _ _ _ _
   | exact ih1 _ _ _ _ _ _ _
   | exact ih2 _ _ _ _ _ _ _
   | exact ih3 _ _ _ _ _ _ _
   | exact impl_Drive.mono _ _ _ _ _
   | exact impl_TrainsOk.mono _ _ _
   | exact spec_DrawRightTrains.mono _ _
   | exact spec_Drive.mono _ _ _ _ _
   | exact LeO.none _
   | refine LeO.ite ?_ ?_
   | refine LeO.bind ?_ (fun _ => ?_)
theorem laws_FnDrive.mono : ∀ a0 k, LeO (laws_FnDrive.f k a0) (laws_FnDrive.f (k + 1) a0) := by
 intro a0 k
 obtain ⟨ih0, ih1, ih2, ih3⟩ := laws_FnDrive.mono_l k
 unfold laws_FnDrive.f
 repeat' first
   | (with_reducible exact ih0 _ _ _ _ _ _ _ _)
   | (with_reducible exact ih1 _ _ _ _ _ _ _)
   | (with_reducible exact ih2 _ _ _ _ _ _ _)
   | (with_reducible exact ih3 _ _ _ _ _ _ _)
   | (with_reducible exact impl_Drive.mono _ _ _ _ _)
   | (with_reducible exact impl_TrainsOk.mono _ _ _)
   | (with_reducible exact spec_DrawRightTrains.mono _ _)
   | (with_reducible exact spec_Drive.mono _ _ _ _ _)
   | (with_reducible exact LeO.refl _)
   | (with_reducible exact LeO.none _)
   | (with_reducible refine LeO.ite ?_ ?_)
   | (with_reducible refine LeO.bind ?_ (fun _ => ?_))
   | exact ih0 _ _ _ _ _ _ _ _
   | exact ih1 _ _ _ _ _ _ _
   | exact ih2 _ _ _ _ _ _ _
   | exact ih3 _ _ _ _ _ _ _
   | exact impl_Drive.mono _ _ _ _ _
   | exact impl_TrainsOk.mono _ _ _
   | exact spec_DrawRightTrains.mono _ _
   | exact spec_Drive.mono _ _ _ _ _
   | exact LeO.none _
   | refine LeO.ite ?_ ?_
   | refine LeO.bind ?_ (fun _ => ?_)
set_option maxHeartbeats 8000000 in
set_option maxRecDepth 100000 in
theorem laws_FnDrive.calls (k : Nat) (A0 : Option Addr) (c0 : Nat) (l0 : List Int) (w : World) (hr0 : Kd.C (Kd.int .u8) w A0 l0.length l0) (hc0 : l0.length ≤ c0) (h : laws_FnDrive.f k l0 = some true) :
  Calls Try.prog 5 #[.slice A0 l0.length c0] w fun e w' => e = .returned (.bool true) ∧ Below w.heap.size w w' := by
 have hu51 := Try.underlying51
 have HR0 := Aside0.mk hr0
 have HC0 := Aside0.mk hc0
 clear hr0 hc0
 have HB := Aside0.mk (Below.refl w.heap.size w)
 have H : ((laws_big.f l0).bind fun t329 => (if t329 = true then (some true) else ((spec_DrawRightTrains.f k l0).bind fun bt330 => ((laws_at.f l0 4).bind fun t337 => ((impl_Drive.f k bt330.1 bt330.2.1 bt330.2.2 (Int.tmod t337 4)).bind fun bt338 => (if bt338.2 < 0 then (laws_FnDrive.j0 k l0 bt330.1 bt330.2.1 bt330.2.2 (Int.tmod t337 4) bt338.1 bt338.2 true) else (if bt338.2 > (bt330.2.2.length : Int) then (laws_FnDrive.j0 k l0 bt330.1 bt330.2.1 bt330.2.2 (Int.tmod t337 4) bt338.1 bt338.2 true) else ((impl_TrainsOk.f k bt330.1 bt338.1).bind fun t342 => (if t342 = true then (if (bt338.1.length : Int) > (bt330.2.1.length : Int) then (laws_FnDrive.j0 k l0 bt330.1 bt330.2.1 bt330.2.2 (Int.tmod t337 4) bt338.1 bt338.2 true) else (if (Int.tmod t337 4) = 0 then (laws_FnDrive.j0 k l0 bt330.1 bt330.2.1 bt330.2.2 (Int.tmod t337 4) bt338.1 bt338.2 ((bt338.1.length : Int) != (bt330.2.1.length : Int))) else (laws_FnDrive.j0 k l0 bt330.1 bt330.2.1 bt330.2.2 (Int.tmod t337 4) bt338.1 bt338.2 false))) else (laws_FnDrive.j0 k l0 bt330.1 bt330.2.1 bt330.2.2 (Int.tmod t337 4) bt338.1 bt338.2 true)))))))))) = some true := h
 clear h
 replace H := Option.bind_eq_some_iff.mp H
 obtain ⟨t329, A20, H⟩ := H
 replace H : (if t329 = true then (some true) else ((spec_DrawRightTrains.f k l0).bind fun bt330 => ((laws_at.f l0 4).bind fun t337 => ((impl_Drive.f k bt330.1 bt330.2.1 bt330.2.2 (Int.tmod t337 4)).bind fun bt338 => (if bt338.2 < 0 then (laws_FnDrive.j0 k l0 bt330.1 bt330.2.1 bt330.2.2 (Int.tmod t337 4) bt338.1 bt338.2 true) else (if bt338.2 > (bt330.2.2.length : Int) then (laws_FnDrive.j0 k l0 bt330.1 bt330.2.1 bt330.2.2 (Int.tmod t337 4) bt338.1 bt338.2 true) else ((impl_TrainsOk.f k bt330.1 bt338.1).bind fun t342 => (if t342 = true then (if (bt338.1.length : Int) > (bt330.2.1.length : Int) then (laws_FnDrive.j0 k l0 bt330.1 bt330.2.1 bt330.2.2 (Int.tmod t337 4) bt338.1 bt338.2 true) else (if (Int.tmod t337 4) = 0 then (laws_FnDrive.j0 k l0 bt330.1 bt330.2.1 bt330.2.2 (Int.tmod t337 4) bt338.1 bt338.2 ((bt338.1.length : Int) != (bt330.2.1.length : Int))) else (laws_FnDrive.j0 k l0 bt330.1 bt330.2.1 bt330.2.2 (Int.tmod t337 4) bt338.1 bt338.2 false))) else (laws_FnDrive.j0 k l0 bt330.1 bt330.2.1 bt330.2.2 (Int.tmod t337 4) bt338.1 bt338.2 true))))))))) = some true := H
 have A2 := Aside0.mk A20
 clear A20
 by_cases c3 : t329 = true
 ·subst c3
  have H1 : (some true) = some true := by (first | (rw [if_pos rfl] at H; exact H) | rfl)
  clear H
  have H := H1
  clear H1
  clear H
  go_enter Try.func5, Try.ntmps5
  go_wp2_with (first | (go_at_call 6; (with_reducible refine (laws_big.calls _ _ l0 true _ ?side1 ?side2 A2.out).mono ?_); (case side1 => repeat (first | exact HR0.out | (with_reducible refine Kd.C_alloc ?_ _) | (with_reducible refine Kd.C_drewN ?_ _) | (with_reducible refine Kd.C_drew ?_))); (case side2 => exact HC0.out); rintro e w' ⟨rfl, ⟨nd, rfl⟩⟩; (try first | exact ⟨rfl, _, World.drewN_drewN _ _ _⟩ | exact ⟨rfl, _, Eq.trans (World.drewN_drewN _ _ _) (congrArg (World.drewN _) (Nat.add_assoc _ _ _))⟩)))
  repeat (go_quiet (first | (go_at_call 6; (with_reducible refine (laws_big.calls _ _ l0 true _ ?side1 ?side2 A2.out).mono ?_); (case side1 => repeat (first | exact HR0.out | (with_reducible refine Kd.C_alloc ?_ _) | (with_reducible refine Kd.C_drewN ?_ _) | (with_reducible refine Kd.C_drew ?_))); (case side2 => exact HC0.out); rintro e w' ⟨rfl, ⟨nd, rfl⟩⟩; (try first | exact ⟨rfl, _, World.drewN_drewN _ _ _⟩ | exact ⟨rfl, _, Eq.trans (World.drewN_drewN _ _ _) (congrArg (World.drewN _) (Nat.add_assoc _ _ _))⟩))); try go_wp2_with (first | (go_at_call 6; (with_reducible refine (laws_big.calls _ _ l0 true _ ?side1 ?side2 A2.out).mono ?_); (case side1 => repeat (first | exact HR0.out | (with_reducible refine Kd.C_alloc ?_ _) | (with_reducible refine Kd.C_drewN ?_ _) | (with_reducible refine Kd.C_drew ?_))); (case side2 => exact HC0.out); rintro e w' ⟨rfl, ⟨nd, rfl⟩⟩; (try first | exact ⟨rfl, _, World.drewN_drewN _ _ _⟩ | exact ⟨rfl, _, Eq.trans (World.drewN_drewN _ _ _) (congrArg (World.drewN _) (Nat.add_assoc _ _ _))⟩))))
  go_ret
  exact ⟨by first | rfl | (simp [errW_none, errW_some] <;> rfl) | (simp [*, errW_none, errW_some] <;> rfl), by repeat (first | (with_reducible first | exact HB.out | apply below_alloc | apply pw_below_drewN | apply below_drew1) | exact HB.out)⟩
 ·replace c3 := Bool.eq_false_iff.mpr c3
  subst c3
  have H1 : ((spec_DrawRightTrains.f k l0).bind fun bt330 => ((laws_at.f l0 4).bind fun t337 => ((impl_Drive.f k bt330.1 bt330.2.1 bt330.2.2 (Int.tmod t337 4)).bind fun bt338 => (if bt338.2 < 0 then (laws_FnDrive.j0 k l0 bt330.1 bt330.2.1 bt330.2.2 (Int.tmod t337 4) bt338.1 bt338.2 true) else (if bt338.2 > (bt330.2.2.length : Int) then (laws_FnDrive.j0 k l0 bt330.1 bt330.2.1 bt330.2.2 (Int.tmod t337 4) bt338.1 bt338.2 true) else ((impl_TrainsOk.f k bt330.1 bt338.1).bind fun t342 => (if t342 = true then (if (bt338.1.length : Int) > (bt330.2.1.length : Int) then (laws_FnDrive.j0 k l0 bt330.1 bt330.2.1 bt330.2.2 (Int.tmod t337 4) bt338.1 bt338.2 true) else (if (Int.tmod t337 4) = 0 then (laws_FnDrive.j0 k l0 bt330.1 bt330.2.1 bt330.2.2 (Int.tmod t337 4) bt338.1 bt338.2 ((bt338.1.length : Int) != (bt330.2.1.length : Int))) else (laws_FnDrive.j0 k l0 bt330.1 bt330.2.1 bt330.2.2 (Int.tmod t337 4) bt338.1 bt338.2 false))) else (laws_FnDrive.j0 k l0 bt330.1 bt330.2.1 bt330.2.2 (Int.tmod t337 4) bt338.1 bt338.2 true)))))))) = some true := by (first | (rw [if_neg (show ¬ (false = true) by decide)] at H; exact H) | rfl)
  clear H
  have H := H1
  clear H1
  replace H := Option.bind_eq_some_iff.mp H
  obtain ⟨⟨t330, t331, t332⟩, A40, H⟩ := H
  replace H : ((laws_at.f l0 4).bind fun t337 => ((impl_Drive.f k t330 t331 t332 (Int.tmod t337 4)).bind fun bt338 => (if bt338.2 < 0 then (laws_FnDrive.j0 k l0 t330 t331 t332 (Int.tmod t337 4) bt338.1 bt338.2 true) else (if bt338.2 > (t332.length : Int) then (laws_FnDrive.j0 k l0 t330 t331 t332 (Int.tmod t337 4) bt338.1 bt338.2 true) else ((impl_TrainsOk.f k t330 bt338.1).bind fun t342 => (if t342 = true then (if (bt338.1.length : Int) > (t331.length : Int) then (laws_FnDrive.j0 k l0 t330 t331 t332 (Int.tmod t337 4) bt338.1 bt338.2 true) else (if (Int.tmod t337 4) = 0 then (laws_FnDrive.j0 k l0 t330 t331 t332 (Int.tmod t337 4) bt338.1 bt338.2 ((bt338.1.length : Int) != (t331.length : Int))) else (laws_FnDrive.j0 k l0 t330 t331 t332 (Int.tmod t337 4) bt338.1 bt338.2 false))) else (laws_FnDrive.j0 k l0 t330 t331 t332 (Int.tmod t337 4) bt338.1 bt338.2 true))))))) = some true := H
  have A4 := Aside0.mk A40
  clear A40
  replace H := Option.bind_eq_some_iff.mp H
  obtain ⟨t337, A50, H⟩ := H
  replace H : ((impl_Drive.f k t330 t331 t332 (Int.tmod t337 4)).bind fun bt338 => (if bt338.2 < 0 then (laws_FnDrive.j0 k l0 t330 t331 t332 (Int.tmod t337 4) bt338.1 bt338.2 true) else (if bt338.2 > (t332.length : Int) then (laws_FnDrive.j0 k l0 t330 t331 t332 (Int.tmod t337 4) bt338.1 bt338.2 true) else ((impl_TrainsOk.f k t330 bt338.1).bind fun t342 => (if t342 = true then (if (bt338.1.length : Int) > (t331.length : Int) then (laws_FnDrive.j0 k l0 t330 t331 t332 (Int.tmod t337 4) bt338.1 bt338.2 true) else (if (Int.tmod t337 4) = 0 then (laws_FnDrive.j0 k l0 t330 t331 t332 (Int.tmod t337 4) bt338.1 bt338.2 ((bt338.1.length : Int) != (t331.length : Int))) else (laws_FnDrive.j0 k l0 t330 t331 t332 (Int.tmod t337 4) bt338.1 bt338.2 false))) else (laws_FnDrive.j0 k l0 t330 t331 t332 (Int.tmod t337 4) bt338.1 bt338.2 true)))))) = some true := H
  have A5 := Aside0.mk A50
  clear A50
  replace H := Option.bind_eq_some_iff.mp H
  obtain ⟨⟨t338, t339⟩, A60, H⟩ := H
  replace H : (if t339 < 0 then (laws_FnDrive.j0 k l0 t330 t331 t332 (Int.tmod t337 4) t338 t339 true) else (if t339 > (t332.length : Int) then (laws_FnDrive.j0 k l0 t330 t331 t332 (Int.tmod t337 4) t338 t339 true) else ((impl_TrainsOk.f k t330 t338).bind fun t342 => (if t342 = true then (if (t338.length : Int) > (t331.length : Int) then (laws_FnDrive.j0 k l0 t330 t331 t332 (Int.tmod t337 4) t338 t339 true) else (if (Int.tmod t337 4) = 0 then (laws_FnDrive.j0 k l0 t330 t331 t332 (Int.tmod t337 4) t338 t339 ((t338.length : Int) != (t331.length : Int))) else (laws_FnDrive.j0 k l0 t330 t331 t332 (Int.tmod t337 4) t338 t339 false))) else (laws_FnDrive.j0 k l0 t330 t331 t332 (Int.tmod t337 4) t338 t339 true))))) = some true := H
  have A6 := Aside0.mk A60
  clear A60
  have HC7 := Aside0.mk H
  clear H
  go_enter Try.func5, Try.ntmps5
  go_upto_region 6 with (first | (go_at_call 6; (with_reducible refine (laws_big.calls _ _ l0 false _ ?side1 ?side2 A2.out).mono ?_); (case side1 => repeat (first | exact HR0.out | (with_reducible refine Kd.C_alloc ?_ _) | (with_reducible refine Kd.C_drewN ?_ _) | (with_reducible refine Kd.C_drew ?_))); (case side2 => exact HC0.out); rintro e w' ⟨rfl, ⟨nd, rfl⟩⟩; (try first | exact ⟨rfl, _, World.drewN_drewN _ _ _⟩ | exact ⟨rfl, _, Eq.trans (World.drewN_drewN _ _ _) (congrArg (World.drewN _) (Nat.add_assoc _ _ _))⟩)) | (go_at_call 18; (with_reducible refine (spec_DrawRightTrains.calls k _ _ l0 t330 t331 t332 _ ?side1 ?side2 A4.out).mono ?_); (case side1 => repeat (first | exact HR0.out | (with_reducible refine Kd.C_alloc ?_ _) | (with_reducible refine Kd.C_drewN ?_ _) | (with_reducible refine Kd.C_drew ?_))); (case side2 => exact HC0.out); rintro e w8 ⟨v333, v335, rfl, ho0, ho1, hb⟩; have n0_ := Aside0.mk (Kd.R_lower ho0 (below_size (by repeat (first | (with_reducible first | exact HB.out | apply below_alloc | apply pw_below_drewN | apply below_drew1) | exact HB.out)))); have n1_ := Aside0.mk (Kd.R_lower ho1 (below_size (by repeat (first | (with_reducible first | exact HB.out | apply below_alloc | apply pw_below_drewN | apply below_drew1) | exact HB.out)))); have n2_ := Aside0.mk (below_step (by repeat (first | (with_reducible first | exact HB.out | apply below_alloc | apply pw_below_drewN | apply below_drew1) | exact HB.out)) hb); clear HB; have HO334 := n0_; have HO336 := n1_; have HB := n2_; clear n0_ n1_ n2_; (try clear hb); (try clear hb2); (try clear hk); (try clear hi); (try clear ho0); (try clear ho1)) | (go_at_call 10; (with_reducible refine (laws_at.calls _ _ l0 4 t337 _ ?side1 ?side2 A5.out).mono ?_); (case side1 => repeat (first | exact (Kd.C_below HR0.out HB.out) | (with_reducible refine Kd.C_alloc ?_ _) | (with_reducible refine Kd.C_drewN ?_ _) | (with_reducible refine Kd.C_drew ?_))); (case side2 => exact HC0.out); rintro e w' ⟨rfl, ⟨nd, rfl⟩⟩; (try first | exact ⟨rfl, _, World.drewN_drewN _ _ _⟩ | exact ⟨rfl, _, Eq.trans (World.drewN_drewN _ _ _) (congrArg (World.drewN _) (Nat.add_assoc _ _ _))⟩); obtain ⟨Ao9, co9, eo9⟩ := Kd.R_slice HO334.out; subst eo9; obtain ⟨Ao10, co10, eo10⟩ := Kd.R_slice HO336.out; subst eo10) | (go_at_call 19; (with_reducible refine (impl_Drive.calls k t330 _ _ t331 _ _ t332 (Int.tmod t337 4) t338 t339 _ ?side1 ?side2 ?side3 ?side4 A6.out).mono ?_); (case side1 => repeat (first | exact (Kd.R_reads' HO334.out).2.2 | (with_reducible refine Kd.C_alloc ?_ _) | (with_reducible refine Kd.C_drewN ?_ _) | (with_reducible refine Kd.C_drew ?_))); (case side2 => exact (Kd.R_reads' HO334.out).2.1); (case side3 => repeat (first | exact (Kd.R_reads' HO336.out).2.2 | (with_reducible refine Kd.C_alloc ?_ _) | (with_reducible refine Kd.C_drewN ?_ _) | (with_reducible refine Kd.C_drew ?_))); (case side4 => exact (Kd.R_reads' HO336.out).2.1); rintro e w11 ⟨v340, rfl, ho0, hb⟩; have n0_ := Aside0.mk (Kd.R_elder' (by (with_reducible repeat (first | apply Kd.R_alloc | apply Kd.R_drewN | apply Kd.R_drew)); exact HO334.out) (Kd.R_base ho0) hb); have n1_ := Aside0.mk (Kd.R_below (by (with_reducible repeat (first | apply Kd.R_alloc | apply Kd.R_drewN | apply Kd.R_drew)); exact HO336.out) hb); have n2_ := Aside0.mk (Kd.R_lower (Kd.R_new' ho0 (Kd.R_lt (by (with_reducible repeat (first | apply Kd.R_alloc | apply Kd.R_drewN | apply Kd.R_drew)); exact HO334.out))) (below_size (by repeat (first | (with_reducible first | exact HB.out | apply below_alloc | apply pw_below_drewN | apply below_drew1) | exact HB.out)))); have n3_ := Aside0.mk (below_step (by repeat (first | (with_reducible first | exact HB.out | apply below_alloc | apply pw_below_drewN | apply below_drew1) | exact HB.out)) hb); clear HO334; clear HO336; clear HB; have HO334 := n0_; have HO336 := n1_; have HO341 := n2_; have HB := n3_; clear n0_ n1_ n2_ n3_; (try clear hb); (try clear hb2); (try clear hk); (try clear hi); (try clear ho0)))
  repeat (go_quiet (first | (go_at_call 6; (with_reducible refine (laws_big.calls _ _ l0 false _ ?side1 ?side2 A2.out).mono ?_); (case side1 => repeat (first | exact HR0.out | (with_reducible refine Kd.C_alloc ?_ _) | (with_reducible refine Kd.C_drewN ?_ _) | (with_reducible refine Kd.C_drew ?_))); (case side2 => exact HC0.out); rintro e w' ⟨rfl, ⟨nd, rfl⟩⟩; (try first | exact ⟨rfl, _, World.drewN_drewN _ _ _⟩ | exact ⟨rfl, _, Eq.trans (World.drewN_drewN _ _ _) (congrArg (World.drewN _) (Nat.add_assoc _ _ _))⟩)) | (go_at_call 18; (with_reducible refine (spec_DrawRightTrains.calls k _ _ l0 t330 t331 t332 _ ?side1 ?side2 A4.out).mono ?_); (case side1 => repeat (first | exact HR0.out | (with_reducible refine Kd.C_alloc ?_ _) | (with_reducible refine Kd.C_drewN ?_ _) | (with_reducible refine Kd.C_drew ?_))); (case side2 => exact HC0.out); rintro e w8 ⟨v333, v335, rfl, ho0, ho1, hb⟩; have n0_ := Aside0.mk (Kd.R_lower ho0 (below_size (by repeat (first | (with_reducible first | exact HB.out | apply below_alloc | apply pw_below_drewN | apply below_drew1) | exact HB.out)))); have n1_ := Aside0.mk (Kd.R_lower ho1 (below_size (by repeat (first | (with_reducible first | exact HB.out | apply below_alloc | apply pw_below_drewN | apply below_drew1) | exact HB.out)))); have n2_ := Aside0.mk (below_step (by repeat (first | (with_reducible first | exact HB.out | apply below_alloc | apply pw_below_drewN | apply below_drew1) | exact HB.out)) hb); clear HB; have HO334 := n0_; have HO336 := n1_; have HB := n2_; clear n0_ n1_ n2_; (try clear hb); (try clear hb2); (try clear hk); (try clear hi); (try clear ho0); (try clear ho1)) | (go_at_call 10; (with_reducible refine (laws_at.calls _ _ l0 4 t337 _ ?side1 ?side2 A5.out).mono ?_); (case side1 => repeat (first | exact (Kd.C_below HR0.out HB.out) | (with_reducible refine Kd.C_alloc ?_ _) | (with_reducible refine Kd.C_drewN ?_ _) | (with_reducible refine Kd.C_drew ?_))); (case side2 => exact HC0.out); rintro e w' ⟨rfl, ⟨nd, rfl⟩⟩; (try first | exact ⟨rfl, _, World.drewN_drewN _ _ _⟩ | exact ⟨rfl, _, Eq.trans (World.drewN_drewN _ _ _) (congrArg (World.drewN _) (Nat.add_assoc _ _ _))⟩); obtain ⟨Ao9, co9, eo9⟩ := Kd.R_slice HO334.out; subst eo9; obtain ⟨Ao10, co10, eo10⟩ := Kd.R_slice HO336.out; subst eo10) | (go_at_call 19; (with_reducible refine (impl_Drive.calls k t330 _ _ t331 _ _ t332 (Int.tmod t337 4) t338 t339 _ ?side1 ?side2 ?side3 ?side4 A6.out).mono ?_); (case side1 => repeat (first | exact (Kd.R_reads' HO334.out).2.2 | (with_reducible refine Kd.C_alloc ?_ _) | (with_reducible refine Kd.C_drewN ?_ _) | (with_reducible refine Kd.C_drew ?_))); (case side2 => exact (Kd.R_reads' HO334.out).2.1); (case side3 => repeat (first | exact (Kd.R_reads' HO336.out).2.2 | (with_reducible refine Kd.C_alloc ?_ _) | (with_reducible refine Kd.C_drewN ?_ _) | (with_reducible refine Kd.C_drew ?_))); (case side4 => exact (Kd.R_reads' HO336.out).2.1); rintro e w11 ⟨v340, rfl, ho0, hb⟩; have n0_ := Aside0.mk (Kd.R_elder' (by (with_reducible repeat (first | apply Kd.R_alloc | apply Kd.R_drewN | apply Kd.R_drew)); exact HO334.out) (Kd.R_base ho0) hb); have n1_ := Aside0.mk (Kd.R_below (by (with_reducible repeat (first | apply Kd.R_alloc | apply Kd.R_drewN | apply Kd.R_drew)); exact HO336.out) hb); have n2_ := Aside0.mk (Kd.R_lower (Kd.R_new' ho0 (Kd.R_lt (by (with_reducible repeat (first | apply Kd.R_alloc | apply Kd.R_drewN | apply Kd.R_drew)); exact HO334.out))) (below_size (by repeat (first | (with_reducible first | exact HB.out | apply below_alloc | apply pw_below_drewN | apply below_drew1) | exact HB.out)))); have n3_ := Aside0.mk (below_step (by repeat (first | (with_reducible first | exact HB.out | apply below_alloc | apply pw_below_drewN | apply below_drew1) | exact HB.out)) hb); clear HO334; clear HO336; clear HB; have HO334 := n0_; have HO336 := n1_; have HO341 := n2_; have HB := n3_; clear n0_ n1_ n2_ n3_; (try clear hb); (try clear hb2); (try clear hk); (try clear hi); (try clear ho0))); go_upto_region 6 with (first | (go_at_call 6; (with_reducible refine (laws_big.calls _ _ l0 false _ ?side1 ?side2 A2.out).mono ?_); (case side1 => repeat (first | exact HR0.out | (with_reducible refine Kd.C_alloc ?_ _) | (with_reducible refine Kd.C_drewN ?_ _) | (with_reducible refine Kd.C_drew ?_))); (case side2 => exact HC0.out); rintro e w' ⟨rfl, ⟨nd, rfl⟩⟩; (try first | exact ⟨rfl, _, World.drewN_drewN _ _ _⟩ | exact ⟨rfl, _, Eq.trans (World.drewN_drewN _ _ _) (congrArg (World.drewN _) (Nat.add_assoc _ _ _))⟩)) | (go_at_call 18; (with_reducible refine (spec_DrawRightTrains.calls k _ _ l0 t330 t331 t332 _ ?side1 ?side2 A4.out).mono ?_); (case side1 => repeat (first | exact HR0.out | (with_reducible refine Kd.C_alloc ?_ _) | (with_reducible refine Kd.C_drewN ?_ _) | (with_reducible refine Kd.C_drew ?_))); (case side2 => exact HC0.out); rintro e w8 ⟨v333, v335, rfl, ho0, ho1, hb⟩; have n0_ := Aside0.mk (Kd.R_lower ho0 (below_size (by repeat (first | (with_reducible first | exact HB.out | apply below_alloc | apply pw_below_drewN | apply below_drew1) | exact HB.out)))); have n1_ := Aside0.mk (Kd.R_lower ho1 (below_size (by repeat (first | (with_reducible first | exact HB.out | apply below_alloc | apply pw_below_drewN | apply below_drew1) | exact HB.out)))); have n2_ := Aside0.mk (below_step (by repeat (first | (with_reducible first | exact HB.out | apply below_alloc | apply pw_below_drewN | apply below_drew1) | exact HB.out)) hb); clear HB; have HO334 := n0_; have HO336 := n1_; have HB := n2_; clear n0_ n1_ n2_; (try clear hb); (try clear hb2); (try clear hk); (try clear hi); (try clear ho0); (try clear ho1)) | (go_at_call 10; (with_reducible refine (laws_at.calls _ _ l0 4 t337 _ ?side1 ?side2 A5.out).mono ?_); (case side1 => repeat (first | exact (Kd.C_below HR0.out HB.out) | (with_reducible refine Kd.C_alloc ?_ _) | (with_reducible refine Kd.C_drewN ?_ _) | (with_reducible refine Kd.C_drew ?_))); (case side2 => exact HC0.out); rintro e w' ⟨rfl, ⟨nd, rfl⟩⟩; (try first | exact ⟨rfl, _, World.drewN_drewN _ _ _⟩ | exact ⟨rfl, _, Eq.trans (World.drewN_drewN _ _ _) (congrArg (World.drewN _) (Nat.add_assoc _ _ _))⟩); obtain ⟨Ao9, co9, eo9⟩ := Kd.R_slice HO334.out; subst eo9; obtain ⟨Ao10, co10, eo10⟩ := Kd.R_slice HO336.out; subst eo10) | (go_at_call 19; (with_reducible refine (impl_Drive.calls k t330 _ _ t331 _ _ t332 (Int.tmod t337 4) t338 t339 _ ?side1 ?side2 ?side3 ?side4 A6.out).mono ?_); (case side1 => repeat (first | exact (Kd.R_reads' HO334.out).2.2 | (with_reducible refine Kd.C_alloc ?_ _) | (with_reducible refine Kd.C_drewN ?_ _) | (with_reducible refine Kd.C_drew ?_))); (case side2 => exact (Kd.R_reads' HO334.out).2.1); (case side3 => repeat (first | exact (Kd.R_reads' HO336.out).2.2 | (with_reducible refine Kd.C_alloc ?_ _) | (with_reducible refine Kd.C_drewN ?_ _) | (with_reducible refine Kd.C_drew ?_))); (case side4 => exact (Kd.R_reads' HO336.out).2.1); rintro e w11 ⟨v340, rfl, ho0, hb⟩; have n0_ := Aside0.mk (Kd.R_elder' (by (with_reducible repeat (first | apply Kd.R_alloc | apply Kd.R_drewN | apply Kd.R_drew)); exact HO334.out) (Kd.R_base ho0) hb); have n1_ := Aside0.mk (Kd.R_below (by (with_reducible repeat (first | apply Kd.R_alloc | apply Kd.R_drewN | apply Kd.R_drew)); exact HO336.out) hb); have n2_ := Aside0.mk (Kd.R_lower (Kd.R_new' ho0 (Kd.R_lt (by (with_reducible repeat (first | apply Kd.R_alloc | apply Kd.R_drewN | apply Kd.R_drew)); exact HO334.out))) (below_size (by repeat (first | (with_reducible first | exact HB.out | apply below_alloc | apply pw_below_drewN | apply below_drew1) | exact HB.out)))); have n3_ := Aside0.mk (below_step (by repeat (first | (with_reducible first | exact HB.out | apply below_alloc | apply pw_below_drewN | apply below_drew1) | exact HB.out)) hb); clear HO334; clear HO336; clear HB; have HO334 := n0_; have HO336 := n1_; have HO341 := n2_; have HB := n3_; clear n0_ n1_ n2_ n3_; (try clear hb); (try clear hb2); (try clear hk); (try clear hi); (try clear ho0))))
  (try simp only [Act.put, List.setIfInBounds_toArray, List.set_cons_zero, List.set_cons_succ])
  go_cut [67] (fun v67 wc => ∃ (kq : Nat) (x67_6 : Bool), v67 = .bool x67_6 ∧ Aside0 (laws_FnDrive.j0 kq l0 t330 t331 t332 (Int.tmod t337 4) t338 t339 x67_6 = some true) ∧ Aside0 (kq ≤ k) ∧ Aside0 (Kd.R k51 51 wc w.heap.size (fun k_ => some k_ ≠ (v340 : Value).ownBlock) (.slice Ao9 t331.length co9) t331) ∧ Aside0 (Kd.R (Kd.int .i64) 3 wc w.heap.size (fun _ => True) (.slice Ao10 t332.length co10) t332) ∧ Aside0 (Kd.R k51 51 wc w.heap.size (fun k_ => some k_ ≠ ((.slice Ao9 t331.length co9) : Value).ownBlock) v340 t338) ∧ Aside0 (Below w.heap.size w wc))
  case first =>
   have H := HC7.out
   clear HC7
   by_cases c12 : t339 < 0
   ·rw [if_pos c12] at H
    have c12b0 : decide (t339 < 0) = true := decide_eq_true c12
    clear c12
    (first | rw [c12b0] | (simp only [i64_w, i32_w]; rw [c12b0]) | rw [c12b1] | skip)
    have H' := Aside0.mk H
    clear H
    go_wp2
    repeat (go_quiet (fail); try go_wp2)
    go_meet
    case rel => exact ⟨_, (true), (by first | rfl | (simp; done) | (simp [*]; done)), H', ⟨by first | omega | exact Nat.le_refl _⟩, ⟨by (with_reducible repeat (first | apply Kd.R_alloc | apply Kd.R_drewN | apply Kd.R_drew)); exact Kd.R_mono HO334.out (fun _ hk => hk.2)⟩, ⟨by (with_reducible repeat (first | apply Kd.R_alloc | apply Kd.R_drewN | apply Kd.R_drew)); exact HO336.out⟩, ⟨by (with_reducible repeat (first | apply Kd.R_alloc | apply Kd.R_drewN | apply Kd.R_drew)); exact Kd.R_mono HO341.out (fun _ hk => hk.2)⟩, ⟨by repeat (first | (with_reducible first | exact HB.out | apply below_alloc | apply pw_below_drewN | apply below_drew1) | exact HB.out)⟩⟩
   ·rw [if_neg c12] at H
    have c12b0 : decide (t339 < 0) = false := decide_eq_false c12
    clear c12
    (first | rw [c12b0] | (simp only [i64_w, i32_w]; rw [c12b0]) | rw [c12b1] | skip)
    by_cases c13 : t339 > (t332.length : Int)
    ·rw [if_pos c13] at H
     have c13b0 : decide ((t332.length : Int) < t339) = true := decide_eq_true c13
     clear c13
     have H' := Aside0.mk H
     clear H
     go_wp2
     repeat (go_quiet (fail); try go_wp2)
     go_meet
     case rel => exact ⟨_, (true), (by first | rfl | (simp; done) | (simp [*]; done)), H', ⟨by first | omega | exact Nat.le_refl _⟩, ⟨by (with_reducible repeat (first | apply Kd.R_alloc | apply Kd.R_drewN | apply Kd.R_drew)); exact Kd.R_mono HO334.out (fun _ hk => hk.2)⟩, ⟨by (with_reducible repeat (first | apply Kd.R_alloc | apply Kd.R_drewN | apply Kd.R_drew)); exact HO336.out⟩, ⟨by (with_reducible repeat (first | apply Kd.R_alloc | apply Kd.R_drewN | apply Kd.R_drew)); exact Kd.R_mono HO341.out (fun _ hk => hk.2)⟩, ⟨by repeat (first | (with_reducible first | exact HB.out | apply below_alloc | apply pw_below_drewN | apply below_drew1) | exact HB.out)⟩⟩
    ·rw [if_neg c13] at H
     have c13b0 : decide ((t332.length : Int) < t339) = false := decide_eq_false c13
     clear c13
     replace H := Option.bind_eq_some_iff.mp H
     obtain ⟨t342, A140, H⟩ := H
     replace H : (if t342 = true then (if (t338.length : Int) > (t331.length : Int) then (laws_FnDrive.j0 k l0 t330 t331 t332 (Int.tmod t337 4) t338 t339 true) else (if (Int.tmod t337 4) = 0 then (laws_FnDrive.j0 k l0 t330 t331 t332 (Int.tmod t337 4) t338 t339 ((t338.length : Int) != (t331.length : Int))) else (laws_FnDrive.j0 k l0 t330 t331 t332 (Int.tmod t337 4) t338 t339 false))) else (laws_FnDrive.j0 k l0 t330 t331 t332 (Int.tmod t337 4) t338 t339 true)) = some true := H
     have A14 := Aside0.mk A140
     clear A140
     by_cases c15 : t342 = true
     ·subst c15
      have H1 : (if (t338.length : Int) > (t331.length : Int) then (laws_FnDrive.j0 k l0 t330 t331 t332 (Int.tmod t337 4) t338 t339 true) else (if (Int.tmod t337 4) = 0 then (laws_FnDrive.j0 k l0 t330 t331 t332 (Int.tmod t337 4) t338 t339 ((t338.length : Int) != (t331.length : Int))) else (laws_FnDrive.j0 k l0 t330 t331 t332 (Int.tmod t337 4) t338 t339 false))) = some true := by (first | (rw [if_pos rfl] at H; exact H) | rfl)
      clear H
      have H := H1
      clear H1
      by_cases c16 : (t338.length : Int) > (t331.length : Int)
      ·rw [if_pos c16] at H
       have c16b0 : decide ((t331.length : Int) < (t338.length : Int)) = true := decide_eq_true c16
       have c16b1 : decide (t331.length < t338.length) = true := decide_eq_true (Int.ofNat_lt.mp c16)
       clear c16
       have H' := Aside0.mk H
       clear H
       obtain ⟨Ao17, co17, eo17⟩ := Kd.R_slice HO341.out
       subst eo17
       go_wp2_with (first | (go_at_call 20; (with_reducible refine (impl_TrainsOk.calls k t330 _ _ t338 true _ ?side1 ?side2 A14.out).mono ?_); (case side1 => repeat (first | exact (Kd.R_reads' HO341.out).2.2 | (with_reducible refine Kd.C_alloc ?_ _) | (with_reducible refine Kd.C_drewN ?_ _) | (with_reducible refine Kd.C_drew ?_))); (case side2 => exact (Kd.R_reads' HO341.out).2.1); rintro e w18 ⟨rfl, hb⟩; have n0_ := Aside0.mk (Kd.R_below (by (with_reducible repeat (first | apply Kd.R_alloc | apply Kd.R_drewN | apply Kd.R_drew)); exact HO334.out) hb); have n1_ := Aside0.mk (Kd.R_below (by (with_reducible repeat (first | apply Kd.R_alloc | apply Kd.R_drewN | apply Kd.R_drew)); exact HO336.out) hb); have n2_ := Aside0.mk (Kd.R_below (by (with_reducible repeat (first | apply Kd.R_alloc | apply Kd.R_drewN | apply Kd.R_drew)); exact HO341.out) hb); have n3_ := Aside0.mk (below_step (by repeat (first | (with_reducible first | exact HB.out | apply below_alloc | apply pw_below_drewN | apply below_drew1) | exact HB.out)) hb); clear HO334; clear HO336; clear HO341; clear HB; have HO334 := n0_; have HO336 := n1_; have HO341 := n2_; have HB := n3_; clear n0_ n1_ n2_ n3_; (try clear hb); (try clear hb2); (try clear hk); (try clear hi)))
       repeat (go_quiet (first | (go_at_call 20; (with_reducible refine (impl_TrainsOk.calls k t330 _ _ t338 true _ ?side1 ?side2 A14.out).mono ?_); (case side1 => repeat (first | exact (Kd.R_reads' HO341.out).2.2 | (with_reducible refine Kd.C_alloc ?_ _) | (with_reducible refine Kd.C_drewN ?_ _) | (with_reducible refine Kd.C_drew ?_))); (case side2 => exact (Kd.R_reads' HO341.out).2.1); rintro e w18 ⟨rfl, hb⟩; have n0_ := Aside0.mk (Kd.R_below (by (with_reducible repeat (first | apply Kd.R_alloc | apply Kd.R_drewN | apply Kd.R_drew)); exact HO334.out) hb); have n1_ := Aside0.mk (Kd.R_below (by (with_reducible repeat (first | apply Kd.R_alloc | apply Kd.R_drewN | apply Kd.R_drew)); exact HO336.out) hb); have n2_ := Aside0.mk (Kd.R_below (by (with_reducible repeat (first | apply Kd.R_alloc | apply Kd.R_drewN | apply Kd.R_drew)); exact HO341.out) hb); have n3_ := Aside0.mk (below_step (by repeat (first | (with_reducible first | exact HB.out | apply below_alloc | apply pw_below_drewN | apply below_drew1) | exact HB.out)) hb); clear HO334; clear HO336; clear HO341; clear HB; have HO334 := n0_; have HO336 := n1_; have HO341 := n2_; have HB := n3_; clear n0_ n1_ n2_ n3_; (try clear hb); (try clear hb2); (try clear hk); (try clear hi))); try go_wp2_with (first | (go_at_call 20; (with_reducible refine (impl_TrainsOk.calls k t330 _ _ t338 true _ ?side1 ?side2 A14.out).mono ?_); (case side1 => repeat (first | exact (Kd.R_reads' HO341.out).2.2 | (with_reducible refine Kd.C_alloc ?_ _) | (with_reducible refine Kd.C_drewN ?_ _) | (with_reducible refine Kd.C_drew ?_))); (case side2 => exact (Kd.R_reads' HO341.out).2.1); rintro e w18 ⟨rfl, hb⟩; have n0_ := Aside0.mk (Kd.R_below (by (with_reducible repeat (first | apply Kd.R_alloc | apply Kd.R_drewN | apply Kd.R_drew)); exact HO334.out) hb); have n1_ := Aside0.mk (Kd.R_below (by (with_reducible repeat (first | apply Kd.R_alloc | apply Kd.R_drewN | apply Kd.R_drew)); exact HO336.out) hb); have n2_ := Aside0.mk (Kd.R_below (by (with_reducible repeat (first | apply Kd.R_alloc | apply Kd.R_drewN | apply Kd.R_drew)); exact HO341.out) hb); have n3_ := Aside0.mk (below_step (by repeat (first | (with_reducible first | exact HB.out | apply below_alloc | apply pw_below_drewN | apply below_drew1) | exact HB.out)) hb); clear HO334; clear HO336; clear HO341; clear HB; have HO334 := n0_; have HO336 := n1_; have HO341 := n2_; have HB := n3_; clear n0_ n1_ n2_ n3_; (try clear hb); (try clear hb2); (try clear hk); (try clear hi))))
       go_meet
       case rel => exact ⟨_, (true), (by first | rfl | (simp; done) | (simp [*]; done)), H', ⟨by first | omega | exact Nat.le_refl _⟩, ⟨by (with_reducible repeat (first | apply Kd.R_alloc | apply Kd.R_drewN | apply Kd.R_drew)); exact Kd.R_mono HO334.out (fun _ hk => hk.2)⟩, ⟨by (with_reducible repeat (first | apply Kd.R_alloc | apply Kd.R_drewN | apply Kd.R_drew)); exact HO336.out⟩, ⟨by (with_reducible repeat (first | apply Kd.R_alloc | apply Kd.R_drewN | apply Kd.R_drew)); exact Kd.R_mono HO341.out (fun _ hk => hk.2)⟩, ⟨by repeat (first | (with_reducible first | exact HB.out | apply below_alloc | apply pw_below_drewN | apply below_drew1) | exact HB.out)⟩⟩
      ·rw [if_neg c16] at H
       have c16b0 : decide ((t331.length : Int) < (t338.length : Int)) = false := decide_eq_false c16
       have c16b1 : decide (t331.length < t338.length) = false := decide_eq_false (fun h => c16 (Int.ofNat_lt.mpr h))
       clear c16
       by_cases c19 : (Int.tmod t337 4) = 0
       ·rw [if_pos c19] at H
        have c19b0 : ((Int.tmod t337 4) == 0) = true := beq_iff_eq.mpr c19
        have c19b1 : ((Int.tmod t337 4) != 0) = false := bne_eq_false_iff_eq.mpr c19
        clear c19
        have H' := Aside0.mk H
        clear H
        obtain ⟨Ao20, co20, eo20⟩ := Kd.R_slice HO341.out
        subst eo20
        go_wp2_with (first | (go_at_call 20; (with_reducible refine (impl_TrainsOk.calls k t330 _ _ t338 true _ ?side1 ?side2 A14.out).mono ?_); (case side1 => repeat (first | exact (Kd.R_reads' HO341.out).2.2 | (with_reducible refine Kd.C_alloc ?_ _) | (with_reducible refine Kd.C_drewN ?_ _) | (with_reducible refine Kd.C_drew ?_))); (case side2 => exact (Kd.R_reads' HO341.out).2.1); rintro e w21 ⟨rfl, hb⟩; have n0_ := Aside0.mk (Kd.R_below (by (with_reducible repeat (first | apply Kd.R_alloc | apply Kd.R_drewN | apply Kd.R_drew)); exact HO334.out) hb); have n1_ := Aside0.mk (Kd.R_below (by (with_reducible repeat (first | apply Kd.R_alloc | apply Kd.R_drewN | apply Kd.R_drew)); exact HO336.out) hb); have n2_ := Aside0.mk (Kd.R_below (by (with_reducible repeat (first | apply Kd.R_alloc | apply Kd.R_drewN | apply Kd.R_drew)); exact HO341.out) hb); have n3_ := Aside0.mk (below_step (by repeat (first | (with_reducible first | exact HB.out | apply below_alloc | apply pw_below_drewN | apply below_drew1) | exact HB.out)) hb); clear HO334; clear HO336; clear HO341; clear HB; have HO334 := n0_; have HO336 := n1_; have HO341 := n2_; have HB := n3_; clear n0_ n1_ n2_ n3_; (try clear hb); (try clear hb2); (try clear hk); (try clear hi)))
        repeat (go_quiet (first | (go_at_call 20; (with_reducible refine (impl_TrainsOk.calls k t330 _ _ t338 true _ ?side1 ?side2 A14.out).mono ?_); (case side1 => repeat (first | exact (Kd.R_reads' HO341.out).2.2 | (with_reducible refine Kd.C_alloc ?_ _) | (with_reducible refine Kd.C_drewN ?_ _) | (with_reducible refine Kd.C_drew ?_))); (case side2 => exact (Kd.R_reads' HO341.out).2.1); rintro e w21 ⟨rfl, hb⟩; have n0_ := Aside0.mk (Kd.R_below (by (with_reducible repeat (first | apply Kd.R_alloc | apply Kd.R_drewN | apply Kd.R_drew)); exact HO334.out) hb); have n1_ := Aside0.mk (Kd.R_below (by (with_reducible repeat (first | apply Kd.R_alloc | apply Kd.R_drewN | apply Kd.R_drew)); exact HO336.out) hb); have n2_ := Aside0.mk (Kd.R_below (by (with_reducible repeat (first | apply Kd.R_alloc | apply Kd.R_drewN | apply Kd.R_drew)); exact HO341.out) hb); have n3_ := Aside0.mk (below_step (by repeat (first | (with_reducible first | exact HB.out | apply below_alloc | apply pw_below_drewN | apply below_drew1) | exact HB.out)) hb); clear HO334; clear HO336; clear HO341; clear HB; have HO334 := n0_; have HO336 := n1_; have HO341 := n2_; have HB := n3_; clear n0_ n1_ n2_ n3_; (try clear hb); (try clear hb2); (try clear hk); (try clear hi))); try go_wp2_with (first | (go_at_call 20; (with_reducible refine (impl_TrainsOk.calls k t330 _ _ t338 true _ ?side1 ?side2 A14.out).mono ?_); (case side1 => repeat (first | exact (Kd.R_reads' HO341.out).2.2 | (with_reducible refine Kd.C_alloc ?_ _) | (with_reducible refine Kd.C_drewN ?_ _) | (with_reducible refine Kd.C_drew ?_))); (case side2 => exact (Kd.R_reads' HO341.out).2.1); rintro e w21 ⟨rfl, hb⟩; have n0_ := Aside0.mk (Kd.R_below (by (with_reducible repeat (first | apply Kd.R_alloc | apply Kd.R_drewN | apply Kd.R_drew)); exact HO334.out) hb); have n1_ := Aside0.mk (Kd.R_below (by (with_reducible repeat (first | apply Kd.R_alloc | apply Kd.R_drewN | apply Kd.R_drew)); exact HO336.out) hb); have n2_ := Aside0.mk (Kd.R_below (by (with_reducible repeat (first | apply Kd.R_alloc | apply Kd.R_drewN | apply Kd.R_drew)); exact HO341.out) hb); have n3_ := Aside0.mk (below_step (by repeat (first | (with_reducible first | exact HB.out | apply below_alloc | apply pw_below_drewN | apply below_drew1) | exact HB.out)) hb); clear HO334; clear HO336; clear HO341; clear HB; have HO334 := n0_; have HO336 := n1_; have HO341 := n2_; have HB := n3_; clear n0_ n1_ n2_ n3_; (try clear hb); (try clear hb2); (try clear hk); (try clear hi))))
        go_meet
        case rel => exact ⟨_, (((t338.length : Int) != (t331.length : Int))), (by first | rfl | (simp; done) | (simp [*]; done)), H', ⟨by first | omega | exact Nat.le_refl _⟩, ⟨by (with_reducible repeat (first | apply Kd.R_alloc | apply Kd.R_drewN | apply Kd.R_drew)); exact Kd.R_mono HO334.out (fun _ hk => hk.2)⟩, ⟨by (with_reducible repeat (first | apply Kd.R_alloc | apply Kd.R_drewN | apply Kd.R_drew)); exact HO336.out⟩, ⟨by (with_reducible repeat (first | apply Kd.R_alloc | apply Kd.R_drewN | apply Kd.R_drew)); exact Kd.R_mono HO341.out (fun _ hk => hk.2)⟩, ⟨by repeat (first | (with_reducible first | exact HB.out | apply below_alloc | apply pw_below_drewN | apply below_drew1) | exact HB.out)⟩⟩
       ·rw [if_neg c19] at H
        have c19b0 : ((Int.tmod t337 4) == 0) = false := beq_eq_false_iff_ne.mpr c19
        have c19b1 : ((Int.tmod t337 4) != 0) = true := bne_iff_ne.mpr c19
        have H' := Aside0.mk H
        clear H
        obtain ⟨Ao22, co22, eo22⟩ := Kd.R_slice HO341.out
        subst eo22
        go_wp2_with (first | (go_at_call 20; (with_reducible refine (impl_TrainsOk.calls k t330 _ _ t338 true _ ?side1 ?side2 A14.out).mono ?_); (case side1 => repeat (first | exact (Kd.R_reads' HO341.out).2.2 | (with_reducible refine Kd.C_alloc ?_ _) | (with_reducible refine Kd.C_drewN ?_ _) | (with_reducible refine Kd.C_drew ?_))); (case side2 => exact (Kd.R_reads' HO341.out).2.1); rintro e w23 ⟨rfl, hb⟩; have n0_ := Aside0.mk (Kd.R_below (by (with_reducible repeat (first | apply Kd.R_alloc | apply Kd.R_drewN | apply Kd.R_drew)); exact HO334.out) hb); have n1_ := Aside0.mk (Kd.R_below (by (with_reducible repeat (first | apply Kd.R_alloc | apply Kd.R_drewN | apply Kd.R_drew)); exact HO336.out) hb); have n2_ := Aside0.mk (Kd.R_below (by (with_reducible repeat (first | apply Kd.R_alloc | apply Kd.R_drewN | apply Kd.R_drew)); exact HO341.out) hb); have n3_ := Aside0.mk (below_step (by repeat (first | (with_reducible first | exact HB.out | apply below_alloc | apply pw_below_drewN | apply below_drew1) | exact HB.out)) hb); clear HO334; clear HO336; clear HO341; clear HB; have HO334 := n0_; have HO336 := n1_; have HO341 := n2_; have HB := n3_; clear n0_ n1_ n2_ n3_; (try clear hb); (try clear hb2); (try clear hk); (try clear hi)))
        repeat (go_quiet (first | (go_at_call 20; (with_reducible refine (impl_TrainsOk.calls k t330 _ _ t338 true _ ?side1 ?side2 A14.out).mono ?_); (case side1 => repeat (first | exact (Kd.R_reads' HO341.out).2.2 | (with_reducible refine Kd.C_alloc ?_ _) | (with_reducible refine Kd.C_drewN ?_ _) | (with_reducible refine Kd.C_drew ?_))); (case side2 => exact (Kd.R_reads' HO341.out).2.1); rintro e w23 ⟨rfl, hb⟩; have n0_ := Aside0.mk (Kd.R_below (by (with_reducible repeat (first | apply Kd.R_alloc | apply Kd.R_drewN | apply Kd.R_drew)); exact HO334.out) hb); have n1_ := Aside0.mk (Kd.R_below (by (with_reducible repeat (first | apply Kd.R_alloc | apply Kd.R_drewN | apply Kd.R_drew)); exact HO336.out) hb); have n2_ := Aside0.mk (Kd.R_below (by (with_reducible repeat (first | apply Kd.R_alloc | apply Kd.R_drewN | apply Kd.R_drew)); exact HO341.out) hb); have n3_ := Aside0.mk (below_step (by repeat (first | (with_reducible first | exact HB.out | apply below_alloc | apply pw_below_drewN | apply below_drew1) | exact HB.out)) hb); clear HO334; clear HO336; clear HO341; clear HB; have HO334 := n0_; have HO336 := n1_; have HO341 := n2_; have HB := n3_; clear n0_ n1_ n2_ n3_; (try clear hb); (try clear hb2); (try clear hk); (try clear hi))); try go_wp2_with (first | (go_at_call 20; (with_reducible refine (impl_TrainsOk.calls k t330 _ _ t338 true _ ?side1 ?side2 A14.out).mono ?_); (case side1 => repeat (first | exact (Kd.R_reads' HO341.out).2.2 | (with_reducible refine Kd.C_alloc ?_ _) | (with_reducible refine Kd.C_drewN ?_ _) | (with_reducible refine Kd.C_drew ?_))); (case side2 => exact (Kd.R_reads' HO341.out).2.1); rintro e w23 ⟨rfl, hb⟩; have n0_ := Aside0.mk (Kd.R_below (by (with_reducible repeat (first | apply Kd.R_alloc | apply Kd.R_drewN | apply Kd.R_drew)); exact HO334.out) hb); have n1_ := Aside0.mk (Kd.R_below (by (with_reducible repeat (first | apply Kd.R_alloc | apply Kd.R_drewN | apply Kd.R_drew)); exact HO336.out) hb); have n2_ := Aside0.mk (Kd.R_below (by (with_reducible repeat (first | apply Kd.R_alloc | apply Kd.R_drewN | apply Kd.R_drew)); exact HO341.out) hb); have n3_ := Aside0.mk (below_step (by repeat (first | (with_reducible first | exact HB.out | apply below_alloc | apply pw_below_drewN | apply below_drew1) | exact HB.out)) hb); clear HO334; clear HO336; clear HO341; clear HB; have HO334 := n0_; have HO336 := n1_; have HO341 := n2_; have HB := n3_; clear n0_ n1_ n2_ n3_; (try clear hb); (try clear hb2); (try clear hk); (try clear hi))))
        go_meet
        case rel => exact ⟨_, (false), (by first | rfl | (simp; done) | (simp [*]; done)), H', ⟨by first | omega | exact Nat.le_refl _⟩, ⟨by (with_reducible repeat (first | apply Kd.R_alloc | apply Kd.R_drewN | apply Kd.R_drew)); exact Kd.R_mono HO334.out (fun _ hk => hk.2)⟩, ⟨by (with_reducible repeat (first | apply Kd.R_alloc | apply Kd.R_drewN | apply Kd.R_drew)); exact HO336.out⟩, ⟨by (with_reducible repeat (first | apply Kd.R_alloc | apply Kd.R_drewN | apply Kd.R_drew)); exact Kd.R_mono HO341.out (fun _ hk => hk.2)⟩, ⟨by repeat (first | (with_reducible first | exact HB.out | apply below_alloc | apply pw_below_drewN | apply below_drew1) | exact HB.out)⟩⟩
     ·replace c15 := Bool.eq_false_iff.mpr c15
      subst c15
      have H1 : (laws_FnDrive.j0 k l0 t330 t331 t332 (Int.tmod t337 4) t338 t339 true) = some true := by (first | (rw [if_neg (show ¬ (false = true) by decide)] at H; exact H) | rfl)
      clear H
      have H := H1
      clear H1
      have H' := Aside0.mk H
      clear H
      obtain ⟨Ao24, co24, eo24⟩ := Kd.R_slice HO341.out
      subst eo24
      go_wp2_with (first | (go_at_call 20; (with_reducible refine (impl_TrainsOk.calls k t330 _ _ t338 false _ ?side1 ?side2 A14.out).mono ?_); (case side1 => repeat (first | exact (Kd.R_reads' HO341.out).2.2 | (with_reducible refine Kd.C_alloc ?_ _) | (with_reducible refine Kd.C_drewN ?_ _) | (with_reducible refine Kd.C_drew ?_))); (case side2 => exact (Kd.R_reads' HO341.out).2.1); rintro e w25 ⟨rfl, hb⟩; have n0_ := Aside0.mk (Kd.R_below (by (with_reducible repeat (first | apply Kd.R_alloc | apply Kd.R_drewN | apply Kd.R_drew)); exact HO334.out) hb); have n1_ := Aside0.mk (Kd.R_below (by (with_reducible repeat (first | apply Kd.R_alloc | apply Kd.R_drewN | apply Kd.R_drew)); exact HO336.out) hb); have n2_ := Aside0.mk (Kd.R_below (by (with_reducible repeat (first | apply Kd.R_alloc | apply Kd.R_drewN | apply Kd.R_drew)); exact HO341.out) hb); have n3_ := Aside0.mk (below_step (by repeat (first | (with_reducible first | exact HB.out | apply below_alloc | apply pw_below_drewN | apply below_drew1) | exact HB.out)) hb); clear HO334; clear HO336; clear HO341; clear HB; have HO334 := n0_; have HO336 := n1_; have HO341 := n2_; have HB := n3_; clear n0_ n1_ n2_ n3_; (try clear hb); (try clear hb2); (try clear hk); (try clear hi)))
      repeat (go_quiet (first | (go_at_call 20; (with_reducible refine (impl_TrainsOk.calls k t330 _ _ t338 false _ ?side1 ?side2 A14.out).mono ?_); (case side1 => repeat (first | exact (Kd.R_reads' HO341.out).2.2 | (with_reducible refine Kd.C_alloc ?_ _) | (with_reducible refine Kd.C_drewN ?_ _) | (with_reducible refine Kd.C_drew ?_))); (case side2 => exact (Kd.R_reads' HO341.out).2.1); rintro e w25 ⟨rfl, hb⟩; have n0_ := Aside0.mk (Kd.R_below (by (with_reducible repeat (first | apply Kd.R_alloc | apply Kd.R_drewN | apply Kd.R_drew)); exact HO334.out) hb); have n1_ := Aside0.mk (Kd.R_below (by (with_reducible repeat (first | apply Kd.R_alloc | apply Kd.R_drewN | apply Kd.R_drew)); exact HO336.out) hb); have n2_ := Aside0.mk (Kd.R_below (by (with_reducible repeat (first | apply Kd.R_alloc | apply Kd.R_drewN | apply Kd.R_drew)); exact HO341.out) hb); have n3_ := Aside0.mk (below_step (by repeat (first | (with_reducible first | exact HB.out | apply below_alloc | apply pw_below_drewN | apply below_drew1) | exact HB.out)) hb); clear HO334; clear HO336; clear HO341; clear HB; have HO334 := n0_; have HO336 := n1_; have HO341 := n2_; have HB := n3_; clear n0_ n1_ n2_ n3_; (try clear hb); (try clear hb2); (try clear hk); (try clear hi))); try go_wp2_with (first | (go_at_call 20; (with_reducible refine (impl_TrainsOk.calls k t330 _ _ t338 false _ ?side1 ?side2 A14.out).mono ?_); (case side1 => repeat (first | exact (Kd.R_reads' HO341.out).2.2 | (with_reducible refine Kd.C_alloc ?_ _) | (with_reducible refine Kd.C_drewN ?_ _) | (with_reducible refine Kd.C_drew ?_))); (case side2 => exact (Kd.R_reads' HO341.out).2.1); rintro e w25 ⟨rfl, hb⟩; have n0_ := Aside0.mk (Kd.R_below (by (with_reducible repeat (first | apply Kd.R_alloc | apply Kd.R_drewN | apply Kd.R_drew)); exact HO334.out) hb); have n1_ := Aside0.mk (Kd.R_below (by (with_reducible repeat (first | apply Kd.R_alloc | apply Kd.R_drewN | apply Kd.R_drew)); exact HO336.out) hb); have n2_ := Aside0.mk (Kd.R_below (by (with_reducible repeat (first | apply Kd.R_alloc | apply Kd.R_drewN | apply Kd.R_drew)); exact HO341.out) hb); have n3_ := Aside0.mk (below_step (by repeat (first | (with_reducible first | exact HB.out | apply below_alloc | apply pw_below_drewN | apply below_drew1) | exact HB.out)) hb); clear HO334; clear HO336; clear HO341; clear HB; have HO334 := n0_; have HO336 := n1_; have HO341 := n2_; have HB := n3_; clear n0_ n1_ n2_ n3_; (try clear hb); (try clear hb2); (try clear hk); (try clear hi))))
      go_meet
      case rel => exact ⟨_, (true), (by first | rfl | (simp; done) | (simp [*]; done)), H', ⟨by first | omega | exact Nat.le_refl _⟩, ⟨by (with_reducible repeat (first | apply Kd.R_alloc | apply Kd.R_drewN | apply Kd.R_drew)); exact Kd.R_mono HO334.out (fun _ hk => hk.2)⟩, ⟨by (with_reducible repeat (first | apply Kd.R_alloc | apply Kd.R_drewN | apply Kd.R_drew)); exact HO336.out⟩, ⟨by (with_reducible repeat (first | apply Kd.R_alloc | apply Kd.R_drewN | apply Kd.R_drew)); exact Kd.R_mono HO341.out (fun _ hk => hk.2)⟩, ⟨by repeat (first | (with_reducible first | exact HB.out | apply below_alloc | apply pw_below_drewN | apply below_drew1) | exact HB.out)⟩⟩
  case rest =>
   clear HC7
   try clear c1
   try clear p2
   try clear c3
   try clear c5
   try clear c12
   try clear c12b0
   try clear c12b1
   try clear c13
   try clear c13b0
   try clear c15
   try clear c16
   try clear c16b0
   try clear c16b1
   try clear c19
   try clear c19b0
   try clear c19b1
   obtain ⟨kq, x67_6, rfl, HA, HJ6, HO_4, HO_5, HO_7, HB⟩ := hcut
   cases kq with
   | zero => exact absurd HA.out (by simp [laws_FnDrive.j0])
   | succ kj6 =>
    have H := HA.out
    clear HA
    simp only [laws_FnDrive.j0] at H
    by_cases c26 : x67_6 = true
    ·subst c26
     have H1 : (some false) = some true := by (first | (rw [if_pos rfl] at H; exact H) | rfl)
     clear H
     have H := H1
     clear H1
     exact absurd (Option.some.inj H) (by decide)
    ·replace c26 := Bool.eq_false_iff.mpr c26
     subst c26
     have H1 : (if (t332.length : Int) > 0 then ((laws_at.f l0 5).bind fun t343 => (if (wrap64 ((t332.length : Int) + 1)) = 0 then (none) else (laws_FnDrive.j1 kj6 t330 t331 t332 (Int.tmod t337 4) t338 t339 (Int.tmod t343 (wrap64 ((t332.length : Int) + 1)))))) else (laws_FnDrive.j1 kj6 t330 t331 t332 (Int.tmod t337 4) t338 t339 0)) = some true := by (first | (rw [if_neg (show ¬ (false = true) by decide)] at H; exact H) | rfl)
     clear H
     have H := H1
     clear H1
     have HC27 := Aside0.mk H
     clear H
     go_upto_if 70 with (fail)
     repeat (go_quiet (fail); go_upto_if 70 with (fail))
     go_cut [9] (fun v9 wc => ∃ (kq : Nat) (x9_26 : Int), v9 = .int .i64 x9_26 ∧ Aside0 (laws_FnDrive.j1 kq t330 t331 t332 (Int.tmod t337 4) t338 t339 x9_26 = some true) ∧ Aside0 (kq ≤ kj6) ∧ Aside0 (Kd.R k51 51 wc w.heap.size (fun k_ => some k_ ≠ (v340 : Value).ownBlock) (.slice Ao9 t331.length co9) t331) ∧ Aside0 (Kd.R (Kd.int .i64) 3 wc w.heap.size (fun _ => True) (.slice Ao10 t332.length co10) t332) ∧ Aside0 (Kd.R k51 51 wc w.heap.size (fun k_ => some k_ ≠ ((.slice Ao9 t331.length co9) : Value).ownBlock) v340 t338) ∧ Aside0 (Below w.heap.size w wc))
     case first =>
      have H := HC27.out
      clear HC27
      by_cases c28 : (t332.length : Int) > 0
      ·rw [if_pos c28] at H
       have c28b0 : decide (0 < (t332.length : Int)) = true := decide_eq_true c28
       have c28b1 : decide (0 < t332.length) = true := decide_eq_true (by omega)
       clear c28
       (first | rw [c28b0] | (simp only [i64_w, i32_w]; rw [c28b0]) | rw [c28b1] | skip)
       replace H := Option.bind_eq_some_iff.mp H
       obtain ⟨t343, A290, H⟩ := H
       replace H : (if (wrap64 ((t332.length : Int) + 1)) = 0 then (none) else (laws_FnDrive.j1 kj6 t330 t331 t332 (Int.tmod t337 4) t338 t339 (Int.tmod t343 (wrap64 ((t332.length : Int) + 1))))) = some true := H
       have A29 := Aside0.mk A290
       clear A290
       by_cases c30 : (wrap64 ((t332.length : Int) + 1)) = 0
       ·rw [if_pos c30] at H
        exact absurd H (by simp)
       ·rw [if_neg c30] at H
        have c30b0 : ((wrap64 ((t332.length : Int) + 1)) == 0) = false := beq_eq_false_iff_ne.mpr c30
        have c30b1 : ((wrap64 ((t332.length : Int) + 1)) != 0) = true := bne_iff_ne.mpr c30
        have H' := Aside0.mk H
        clear H
        go_wp2_with (first | (go_at_call 10; (with_reducible refine (laws_at.calls _ _ l0 5 t343 _ ?side1 ?side2 A29.out).mono ?_); (case side1 => repeat (first | exact (Kd.C_below HR0.out HB.out) | (with_reducible refine Kd.C_alloc ?_ _) | (with_reducible refine Kd.C_drewN ?_ _) | (with_reducible refine Kd.C_drew ?_))); (case side2 => exact HC0.out); rintro e w' ⟨rfl, ⟨nd, rfl⟩⟩; (try first | exact ⟨rfl, _, World.drewN_drewN _ _ _⟩ | exact ⟨rfl, _, Eq.trans (World.drewN_drewN _ _ _) (congrArg (World.drewN _) (Nat.add_assoc _ _ _))⟩)))
        repeat (go_quiet (first | (go_at_call 10; (with_reducible refine (laws_at.calls _ _ l0 5 t343 _ ?side1 ?side2 A29.out).mono ?_); (case side1 => repeat (first | exact (Kd.C_below HR0.out HB.out) | (with_reducible refine Kd.C_alloc ?_ _) | (with_reducible refine Kd.C_drewN ?_ _) | (with_reducible refine Kd.C_drew ?_))); (case side2 => exact HC0.out); rintro e w' ⟨rfl, ⟨nd, rfl⟩⟩; (try first | exact ⟨rfl, _, World.drewN_drewN _ _ _⟩ | exact ⟨rfl, _, Eq.trans (World.drewN_drewN _ _ _) (congrArg (World.drewN _) (Nat.add_assoc _ _ _))⟩))); try go_wp2_with (first | (go_at_call 10; (with_reducible refine (laws_at.calls _ _ l0 5 t343 _ ?side1 ?side2 A29.out).mono ?_); (case side1 => repeat (first | exact (Kd.C_below HR0.out HB.out) | (with_reducible refine Kd.C_alloc ?_ _) | (with_reducible refine Kd.C_drewN ?_ _) | (with_reducible refine Kd.C_drew ?_))); (case side2 => exact HC0.out); rintro e w' ⟨rfl, ⟨nd, rfl⟩⟩; (try first | exact ⟨rfl, _, World.drewN_drewN _ _ _⟩ | exact ⟨rfl, _, Eq.trans (World.drewN_drewN _ _ _) (congrArg (World.drewN _) (Nat.add_assoc _ _ _))⟩))))
        go_meet
        case rel => exact ⟨_, (Int.tmod t343 (wrap64 ((t332.length : Int) + 1))), (by first | rfl | (simp; done) | (simp [*]; done)), H', ⟨by have := HJ6.out; first | omega | exact Nat.le_refl _⟩, ⟨by (with_reducible repeat (first | apply Kd.R_alloc | apply Kd.R_drewN | apply Kd.R_drew)); exact HO_4.out⟩, ⟨by (with_reducible repeat (first | apply Kd.R_alloc | apply Kd.R_drewN | apply Kd.R_drew)); exact HO_5.out⟩, ⟨by (with_reducible repeat (first | apply Kd.R_alloc | apply Kd.R_drewN | apply Kd.R_drew)); exact HO_7.out⟩, ⟨by repeat (first | (with_reducible first | exact HB.out | apply below_alloc | apply pw_below_drewN | apply below_drew1) | exact HB.out)⟩⟩
      ·rw [if_neg c28] at H
       have c28b0 : decide (0 < (t332.length : Int)) = false := decide_eq_false c28
       have c28b1 : decide (0 < t332.length) = false := decide_eq_false (by omega)
       clear c28
       (first | rw [c28b0] | (simp only [i64_w, i32_w]; rw [c28b0]) | rw [c28b1] | skip)
       have H' := Aside0.mk H
       clear H
       go_wp2
       repeat (go_quiet (fail); try go_wp2)
       go_meet
       case rel => exact ⟨_, (0), (by first | rfl | (simp; done) | (simp [*]; done)), H', ⟨by have := HJ6.out; first | omega | exact Nat.le_refl _⟩, ⟨by (with_reducible repeat (first | apply Kd.R_alloc | apply Kd.R_drewN | apply Kd.R_drew)); exact HO_4.out⟩, ⟨by (with_reducible repeat (first | apply Kd.R_alloc | apply Kd.R_drewN | apply Kd.R_drew)); exact HO_5.out⟩, ⟨by (with_reducible repeat (first | apply Kd.R_alloc | apply Kd.R_drewN | apply Kd.R_drew)); exact HO_7.out⟩, ⟨by repeat (first | (with_reducible first | exact HB.out | apply below_alloc | apply pw_below_drewN | apply below_drew1) | exact HB.out)⟩⟩
     case rest =>
      clear HC27
      try clear c1
      try clear c2
      try clear p2
      try clear c3
      try clear c5
      try clear p6
      try clear c12
      try clear c12b0
      try clear c12b1
      try clear c13
      try clear c13b0
      try clear c15
      try clear c16
      try clear c16b0
      try clear c16b1
      try clear c19
      try clear c19b0
      try clear c19b1
      try clear c26
      try clear c28
      try clear c28b0
      try clear c28b1
      try clear c30
      try clear c30b0
      try clear c30b1
      try clear p2
      obtain ⟨kq, x9_26, rfl, HA, HJ26, HO_4, HO_5, HO_7, HB⟩ := hcut
      cases kq with
      | zero => exact absurd HA.out (by simp [laws_FnDrive.j1])
      | succ kj26 =>
       have H := HA.out
       clear HA
       simp only [laws_FnDrive.j1] at H
       by_cases c31 : 0 ≤ x9_26
       ·rw [if_pos c31] at H
        have c31b0 := eq_true c31
        have c31b1 : decide (0 ≤ x9_26) = true := decide_eq_true c31
        clear c31
        by_cases c32 : x9_26 ≤ (t332.length : Int)
        ·rw [if_pos c32] at H
         have c32b0 := eq_true c32
         have c32b1 : decide (x9_26 ≤ (t332.length : Int)) = true := decide_eq_true c32
         clear c32
         obtain ⟨y344, hy344⟩ : ∃ y_ : List Int, y_ = (t332.take (x9_26 : Int).toNat) := ⟨_, rfl⟩
         replace H : ((impl_Drive.f kj26 t330 t331 y344 (Int.tmod t337 4)).bind fun bt348 => ((impl_Drive.f kj26 t330 bt348.1 (t332.drop (x9_26 : Int).toNat) (Int.tmod t337 4)).bind fun bt356 => (if (wrap64 (bt348.2 + bt356.2)) = t339 then (laws_FnDrive.j2 kj26 t330 t331 t332 (Int.tmod t337 4) t338 bt356.1 ((bt356.1.length : Int) != (t338.length : Int))) else (laws_FnDrive.j2 kj26 t330 t331 t332 (Int.tmod t337 4) t338 bt356.1 true)))) = some true := by first | (rw [hy344]; with_reducible exact H) | (have H2_ := (Option.bind_some _ _).symm.trans H; rw [hy344]; with_reducible exact H2_) | (have H2_ := (Option.bind_some _ _).symm.trans H; with_reducible exact H2_) | with_reducible exact H | (rw [hy344]; exact H) | exact H
         have Ny344 := Aside0.mk hy344
         clear hy344
         replace H := Option.bind_eq_some_iff.mp H
         obtain ⟨⟨t348, t349⟩, A330, H⟩ := H
         replace H : ((impl_Drive.f kj26 t330 t348 (t332.drop (x9_26 : Int).toNat) (Int.tmod t337 4)).bind fun bt356 => (if (wrap64 (t349 + bt356.2)) = t339 then (laws_FnDrive.j2 kj26 t330 t331 t332 (Int.tmod t337 4) t338 bt356.1 ((bt356.1.length : Int) != (t338.length : Int))) else (laws_FnDrive.j2 kj26 t330 t331 t332 (Int.tmod t337 4) t338 bt356.1 true))) = some true := H
         have A33 := Aside0.mk A330
         clear A330
         have c34b0 := eq_true (of_decide_eq_true (by first | (with_reducible assumption) | assumption) : 0 ≤ x9_26)
         have c35b0 := eq_true (of_decide_eq_true (by first | (with_reducible assumption) | assumption) : x9_26 ≤ (t332.length : Int))
         obtain ⟨y352, hy352⟩ : ∃ y_ : List Int, y_ = (t332.drop (x9_26 : Int).toNat) := ⟨_, rfl⟩
         replace H : ((impl_Drive.f kj26 t330 t348 y352 (Int.tmod t337 4)).bind fun bt356 => (if (wrap64 (t349 + bt356.2)) = t339 then (laws_FnDrive.j2 kj26 t330 t331 t332 (Int.tmod t337 4) t338 bt356.1 ((bt356.1.length : Int) != (t338.length : Int))) else (laws_FnDrive.j2 kj26 t330 t331 t332 (Int.tmod t337 4) t338 bt356.1 true))) = some true := by first | (rw [hy352]; with_reducible exact H) | (have H2_ := (Option.bind_some _ _).symm.trans H; rw [hy352]; with_reducible exact H2_) | (have H2_ := (Option.bind_some _ _).symm.trans H; with_reducible exact H2_) | with_reducible exact H | (rw [hy352]; exact H) | exact H
         have Ny352 := Aside0.mk hy352
         clear hy352
         replace H := Option.bind_eq_some_iff.mp H
         obtain ⟨⟨t356, t357⟩, A360, H⟩ := H
         replace H : (if (wrap64 (t349 + t357)) = t339 then (laws_FnDrive.j2 kj26 t330 t331 t332 (Int.tmod t337 4) t338 t356 ((t356.length : Int) != (t338.length : Int))) else (laws_FnDrive.j2 kj26 t330 t331 t332 (Int.tmod t337 4) t338 t356 true)) = some true := H
         have A36 := Aside0.mk A360
         clear A360
         have HC37 := Aside0.mk H
         clear H
         have q38 : (x9_26 : Int) ≤ ((t332.length : Int) : Int) := of_decide_eq_true (by first | (with_reducible assumption) | assumption)
         obtain ⟨i038, hi038, _, hsz38, _⟩ := info_parts info3
         have hroom38 : t332.length ≤ co10 := (Kd.R_reads' HO_5.out).2.1
         have hC38 : Kd.C (Kd.int .i64) _ Ao10 t332.length t332 := (Kd.R_reads' HO_5.out).2.2
         have hcut38 := cut_to (P := Try.prog) 26 3 .i64 Try.underlying26 hi038 Ao10 t332.length co10 x9_26 (of_decide_eq_true (by first | (with_reducible assumption) | assumption)) q38 hroom38
         have hr38 := Kd.C_take (m := (x9_26 : Int).toNat) hC38 (by omega)
         have hy38 : y344.length = (x9_26 : Int).toNat := (by rw [Ny344.out, List.length_take]; omega)
         rw [← Ny344.out] at hr38
         rw [← hy38] at hcut38
         have HR347 := Aside0.mk hr38
         have HC347 := Aside0.mk (show y344.length ≤ co10 from by omega)
         clear hr38 hC38 hroom38 hi038 hsz38
         have KY38 := Aside0.mk hy38
         clear hy38
         have KL38 := Aside0.mk (show (x9_26 : Int).toNat ≤ t332.length from by omega)
         replace q38 := eq_true q38
         go_upto_region 13 with (first | (go_at_call 19; (with_reducible refine (impl_Drive.calls kj26 t330 _ _ t331 _ _ y344 (Int.tmod t337 4) t348 t349 _ ?side1 ?side2 ?side3 ?side4 A33.out).mono ?_); (case side1 => repeat (first | exact (Kd.R_reads' HO_4.out).2.2 | (with_reducible refine Kd.C_alloc ?_ _) | (with_reducible refine Kd.C_drewN ?_ _) | (with_reducible refine Kd.C_drew ?_))); (case side2 => exact (Kd.R_reads' HO_4.out).2.1); (case side3 => repeat (first | exact (by repeat (first | (with_reducible exact HR347.out) | (with_reducible refine Kd.C_alloc ?_ _) | (with_reducible refine Kd.C_drewN ?_ _) | (with_reducible refine Kd.C_drew ?_) | exact HR347.out)) | (with_reducible refine Kd.C_alloc ?_ _) | (with_reducible refine Kd.C_drewN ?_ _) | (with_reducible refine Kd.C_drew ?_))); (case side4 => exact HC347.out); rintro e w39 ⟨v350, rfl, ho0, hb⟩; have n0_ := Aside0.mk (Kd.R_elder' (by (with_reducible repeat (first | apply Kd.R_alloc | apply Kd.R_drewN | apply Kd.R_drew)); exact HO_4.out) (Kd.R_base ho0) hb); have n1_ := Aside0.mk (Kd.R_below (by (with_reducible repeat (first | apply Kd.R_alloc | apply Kd.R_drewN | apply Kd.R_drew)); exact HO_5.out) hb); have n2_ := Aside0.mk (Kd.R_elder' (by (with_reducible repeat (first | apply Kd.R_alloc | apply Kd.R_drewN | apply Kd.R_drew)); exact HO_7.out) (Kd.R_base ho0) hb); have n3_ := Aside0.mk (Kd.R_lower (Kd.R_new' (Kd.R_new' ho0 (Kd.R_lt (by (with_reducible repeat (first | apply Kd.R_alloc | apply Kd.R_drewN | apply Kd.R_drew)); exact HO_4.out))) (Kd.R_lt (by (with_reducible repeat (first | apply Kd.R_alloc | apply Kd.R_drewN | apply Kd.R_drew)); exact HO_7.out))) (below_size (by repeat (first | (with_reducible first | exact HB.out | apply below_alloc | apply pw_below_drewN | apply below_drew1) | exact HB.out)))); have n4_ := Aside0.mk (Kd.C_below (by repeat (first | (with_reducible exact HR347.out) | (with_reducible refine Kd.C_alloc ?_ _) | (with_reducible refine Kd.C_drewN ?_ _) | (with_reducible refine Kd.C_drew ?_) | exact HR347.out)) hb); have n5_ := Aside0.mk (below_step (by repeat (first | (with_reducible first | exact HB.out | apply below_alloc | apply pw_below_drewN | apply below_drew1) | exact HB.out)) hb); clear HO_4; clear HO_5; clear HO_7; clear HR347; clear HB; have HO_4 := n0_; have HO_5 := n1_; have HO_7 := n2_; have HO351 := n3_; have HR347 := n4_; have HB := n5_; clear n0_ n1_ n2_ n3_ n4_ n5_; (try clear hb); (try clear hb2); (try clear hk); (try clear hi); (try clear ho0); have q40 : (x9_26 : Int) ≤ ((t332.length : Int) : Int) := of_decide_eq_true (by first | (with_reducible assumption) | assumption); obtain ⟨i040, hi040, _, hsz40, _⟩ := info_parts info3; have hroom40 : t332.length ≤ co10 := (Kd.R_reads' HO_5.out).2.1; have hC40 : Kd.C (Kd.int .i64) _ Ao10 t332.length t332 := (Kd.R_reads' HO_5.out).2.2; have q040 : (0 : Int) ≤ (x9_26 : Int) := of_decide_eq_true (by first | (with_reducible assumption) | assumption); have hcut40 := cut_from (P := Try.prog) 26 3 .i64 Try.underlying26 hi040 1 hsz40 Ao10 t332.length co10 x9_26 q040 q40; have hr40 := Kd.C_drop (m := (x9_26 : Int).toNat) (c := co10) hC40 (by omega) hroom40; obtain ⟨A40, hA40⟩ : ∃ A_, A_ = (if co10 = (x9_26 : Int).toNat then Ao10 else (Ao10 : Option Addr).map (·.add ((x9_26 : Int).toNat * 1))) := ⟨_, rfl⟩; obtain ⟨c40, hc40⟩ : ∃ c_, c_ = co10 - (x9_26 : Int).toNat := ⟨_, rfl⟩; have hy40 : y352.length = t332.length - (x9_26 : Int).toNat := (by rw [Ny352.out, List.length_drop] <;> omega); rw [show (t332).drop (x9_26 : Int).toNat = y352 from Ny352.out.symm] at hr40; replace hr40 : Kd.C (Kd.int .i64) _ A40 y352.length y352 := (by rw [hA40]; exact hr40); rw [← hy40, ← hA40, ← hc40] at hcut40; have HR355 := Aside0.mk hr40; have HC355 := Aside0.mk (show y352.length ≤ c40 from by rw [hy40, hc40]; exact Nat.sub_le_sub_right hroom40 _); clear hr40 hC40 hroom40 hi040 hsz40 hc40; have KY40 := Aside0.mk hy40; have KA40 := Aside0.mk hA40; clear hy40 hA40; have KL40 := Aside0.mk (show (x9_26 : Int).toNat ≤ t332.length from by omega); replace q40 := eq_true q40; obtain ⟨Ao41, co41, eo41⟩ := Kd.R_slice HO351.out; subst eo41) | (go_at_call 19; (with_reducible refine (impl_Drive.calls kj26 t330 _ _ t348 _ _ y352 (Int.tmod t337 4) t356 t357 _ ?side1 ?side2 ?side3 ?side4 A36.out).mono ?_); (case side1 => repeat (first | exact (Kd.R_reads' HO351.out).2.2 | (with_reducible refine Kd.C_alloc ?_ _) | (with_reducible refine Kd.C_drewN ?_ _) | (with_reducible refine Kd.C_drew ?_))); (case side2 => exact (Kd.R_reads' HO351.out).2.1); (case side3 => repeat (first | exact (by repeat (first | (with_reducible exact HR355.out) | (with_reducible refine Kd.C_alloc ?_ _) | (with_reducible refine Kd.C_drewN ?_ _) | (with_reducible refine Kd.C_drew ?_) | exact HR355.out)) | (with_reducible refine Kd.C_alloc ?_ _) | (with_reducible refine Kd.C_drewN ?_ _) | (with_reducible refine Kd.C_drew ?_))); (case side4 => exact HC355.out); rintro e w42 ⟨v358, rfl, ho0, hb⟩; have n0_ := Aside0.mk (Kd.R_elder' (by (with_reducible repeat (first | apply Kd.R_alloc | apply Kd.R_drewN | apply Kd.R_drew)); exact HO_4.out) (Kd.R_base ho0) hb); have n1_ := Aside0.mk (Kd.R_below (by (with_reducible repeat (first | apply Kd.R_alloc | apply Kd.R_drewN | apply Kd.R_drew)); exact HO_5.out) hb); have n2_ := Aside0.mk (Kd.R_elder' (by (with_reducible repeat (first | apply Kd.R_alloc | apply Kd.R_drewN | apply Kd.R_drew)); exact HO_7.out) (Kd.R_base ho0) hb); have n3_ := Aside0.mk (Kd.R_elder' (by (with_reducible repeat (first | apply Kd.R_alloc | apply Kd.R_drewN | apply Kd.R_drew)); exact HO351.out) (Kd.R_base ho0) hb); have n4_ := Aside0.mk (Kd.R_lower (Kd.R_new' (Kd.R_new' (Kd.R_new' ho0 (Kd.R_lt (by (with_reducible repeat (first | apply Kd.R_alloc | apply Kd.R_drewN | apply Kd.R_drew)); exact HO_4.out))) (Kd.R_lt (by (with_reducible repeat (first | apply Kd.R_alloc | apply Kd.R_drewN | apply Kd.R_drew)); exact HO_7.out))) (Kd.R_lt (by (with_reducible repeat (first | apply Kd.R_alloc | apply Kd.R_drewN | apply Kd.R_drew)); exact HO351.out))) (below_size (by repeat (first | (with_reducible first | exact HB.out | apply below_alloc | apply pw_below_drewN | apply below_drew1) | exact HB.out)))); have n5_ := Aside0.mk (Kd.C_below (by repeat (first | (with_reducible exact HR347.out) | (with_reducible refine Kd.C_alloc ?_ _) | (with_reducible refine Kd.C_drewN ?_ _) | (with_reducible refine Kd.C_drew ?_) | exact HR347.out)) hb); have n6_ := Aside0.mk (Kd.C_below (by repeat (first | (with_reducible exact HR355.out) | (with_reducible refine Kd.C_alloc ?_ _) | (with_reducible refine Kd.C_drewN ?_ _) | (with_reducible refine Kd.C_drew ?_) | exact HR355.out)) hb); have n7_ := Aside0.mk (below_step (by repeat (first | (with_reducible first | exact HB.out | apply below_alloc | apply pw_below_drewN | apply below_drew1) | exact HB.out)) hb); clear HO_4; clear HO_5; clear HO_7; clear HO351; clear HR347; clear HR355; clear HB; have HO_4 := n0_; have HO_5 := n1_; have HO_7 := n2_; have HO351 := n3_; have HO359 := n4_; have HR347 := n5_; have HR355 := n6_; have HB := n7_; clear n0_ n1_ n2_ n3_ n4_ n5_ n6_ n7_; (try clear hb); (try clear hb2); (try clear hk); (try clear hi); (try clear ho0)))
         repeat (go_quiet (first | (go_at_call 19; (with_reducible refine (impl_Drive.calls kj26 t330 _ _ t331 _ _ y344 (Int.tmod t337 4) t348 t349 _ ?side1 ?side2 ?side3 ?side4 A33.out).mono ?_); (case side1 => repeat (first | exact (Kd.R_reads' HO_4.out).2.2 | (with_reducible refine Kd.C_alloc ?_ _) | (with_reducible refine Kd.C_drewN ?_ _) | (with_reducible refine Kd.C_drew ?_))); (case side2 => exact (Kd.R_reads' HO_4.out).2.1); (case side3 => repeat (first | exact (by repeat (first | (with_reducible exact HR347.out) | (with_reducible refine Kd.C_alloc ?_ _) | (with_reducible refine Kd.C_drewN ?_ _) | (with_reducible refine Kd.C_drew ?_) | exact HR347.out)) | (with_reducible refine Kd.C_alloc ?_ _) | (with_reducible refine Kd.C_drewN ?_ _) | (with_reducible refine Kd.C_drew ?_))); (case side4 => exact HC347.out); rintro e w39 ⟨v350, rfl, ho0, hb⟩; have n0_ := Aside0.mk (Kd.R_elder' (by (with_reducible repeat (first | apply Kd.R_alloc | apply Kd.R_drewN | apply Kd.R_drew)); exact HO_4.out) (Kd.R_base ho0) hb); have n1_ := Aside0.mk (Kd.R_below (by (with_reducible repeat (first | apply Kd.R_alloc | apply Kd.R_drewN | apply Kd.R_drew)); exact HO_5.out) hb); have n2_ := Aside0.mk (Kd.R_elder' (by (with_reducible repeat (first | apply Kd.R_alloc | apply Kd.R_drewN | apply Kd.R_drew)); exact HO_7.out) (Kd.R_base ho0) hb); have n3_ := Aside0.mk (Kd.R_lower (Kd.R_new' (Kd.R_new' ho0 (Kd.R_lt (by (with_reducible repeat (first | apply Kd.R_alloc | apply Kd.R_drewN | apply Kd.R_drew)); exact HO_4.out))) (Kd.R_lt (by (with_reducible repeat (first | apply Kd.R_alloc | apply Kd.R_drewN | apply Kd.R_drew)); exact HO_7.out))) (below_size (by repeat (first | (with_reducible first | exact HB.out | apply below_alloc | apply pw_below_drewN | apply below_drew1) | exact HB.out)))); have n4_ := Aside0.mk (Kd.C_below (by repeat (first | (with_reducible exact HR347.out) | (with_reducible refine Kd.C_alloc ?_ _) | (with_reducible refine Kd.C_drewN ?_ _) | (with_reducible refine Kd.C_drew ?_) | exact HR347.out)) hb); have n5_ := Aside0.mk (below_step (by repeat (first | (with_reducible first | exact HB.out | apply below_alloc | apply pw_below_drewN | apply below_drew1) | exact HB.out)) hb); clear HO_4; clear HO_5; clear HO_7; clear HR347; clear HB; have HO_4 := n0_; have HO_5 := n1_; have HO_7 := n2_; have HO351 := n3_; have HR347 := n4_; have HB := n5_; clear n0_ n1_ n2_ n3_ n4_ n5_; (try clear hb); (try clear hb2); (try clear hk); (try clear hi); (try clear ho0); have q40 : (x9_26 : Int) ≤ ((t332.length : Int) : Int) := of_decide_eq_true (by first | (with_reducible assumption) | assumption); obtain ⟨i040, hi040, _, hsz40, _⟩ := info_parts info3; have hroom40 : t332.length ≤ co10 := (Kd.R_reads' HO_5.out).2.1; have hC40 : Kd.C (Kd.int .i64) _ Ao10 t332.length t332 := (Kd.R_reads' HO_5.out).2.2; have q040 : (0 : Int) ≤ (x9_26 : Int) := of_decide_eq_true (by first | (with_reducible assumption) | assumption); have hcut40 := cut_from (P := Try.prog) 26 3 .i64 Try.underlying26 hi040 1 hsz40 Ao10 t332.length co10 x9_26 q040 q40; have hr40 := Kd.C_drop (m := (x9_26 : Int).toNat) (c := co10) hC40 (by omega) hroom40; obtain ⟨A40, hA40⟩ : ∃ A_, A_ = (if co10 = (x9_26 : Int).toNat then Ao10 else (Ao10 : Option Addr).map (·.add ((x9_26 : Int).toNat * 1))) := ⟨_, rfl⟩; obtain ⟨c40, hc40⟩ : ∃ c_, c_ = co10 - (x9_26 : Int).toNat := ⟨_, rfl⟩; have hy40 : y352.length = t332.length - (x9_26 : Int).toNat := (by rw [Ny352.out, List.length_drop] <;> omega); rw [show (t332).drop (x9_26 : Int).toNat = y352 from Ny352.out.symm] at hr40; replace hr40 : Kd.C (Kd.int .i64) _ A40 y352.length y352 := (by rw [hA40]; exact hr40); rw [← hy40, ← hA40, ← hc40] at hcut40; have HR355 := Aside0.mk hr40; have HC355 := Aside0.mk (show y352.length ≤ c40 from by rw [hy40, hc40]; exact Nat.sub_le_sub_right hroom40 _); clear hr40 hC40 hroom40 hi040 hsz40 hc40; have KY40 := Aside0.mk hy40; have KA40 := Aside0.mk hA40; clear hy40 hA40; have KL40 := Aside0.mk (show (x9_26 : Int).toNat ≤ t332.length from by omega); replace q40 := eq_true q40; obtain ⟨Ao41, co41, eo41⟩ := Kd.R_slice HO351.out; subst eo41) | (go_at_call 19; (with_reducible refine (impl_Drive.calls kj26 t330 _ _ t348 _ _ y352 (Int.tmod t337 4) t356 t357 _ ?side1 ?side2 ?side3 ?side4 A36.out).mono ?_); (case side1 => repeat (first | exact (Kd.R_reads' HO351.out).2.2 | (with_reducible refine Kd.C_alloc ?_ _) | (with_reducible refine Kd.C_drewN ?_ _) | (with_reducible refine Kd.C_drew ?_))); (case side2 => exact (Kd.R_reads' HO351.out).2.1); (case side3 => repeat (first | exact (by repeat (first | (with_reducible exact HR355.out) | (with_reducible refine Kd.C_alloc ?_ _) | (with_reducible refine Kd.C_drewN ?_ _) | (with_reducible refine Kd.C_drew ?_) | exact HR355.out)) | (with_reducible refine Kd.C_alloc ?_ _) | (with_reducible refine Kd.C_drewN ?_ _) | (with_reducible refine Kd.C_drew ?_))); (case side4 => exact HC355.out); rintro e w42 ⟨v358, rfl, ho0, hb⟩; have n0_ := Aside0.mk (Kd.R_elder' (by (with_reducible repeat (first | apply Kd.R_alloc | apply Kd.R_drewN | apply Kd.R_drew)); exact HO_4.out) (Kd.R_base ho0) hb); have n1_ := Aside0.mk (Kd.R_below (by (with_reducible repeat (first | apply Kd.R_alloc | apply Kd.R_drewN | apply Kd.R_drew)); exact HO_5.out) hb); have n2_ := Aside0.mk (Kd.R_elder' (by (with_reducible repeat (first | apply Kd.R_alloc | apply Kd.R_drewN | apply Kd.R_drew)); exact HO_7.out) (Kd.R_base ho0) hb); have n3_ := Aside0.mk (Kd.R_elder' (by (with_reducible repeat (first | apply Kd.R_alloc | apply Kd.R_drewN | apply Kd.R_drew)); exact HO351.out) (Kd.R_base ho0) hb); have n4_ := Aside0.mk (Kd.R_lower (Kd.R_new' (Kd.R_new' (Kd.R_new' ho0 (Kd.R_lt (by (with_reducible repeat (first | apply Kd.R_alloc | apply Kd.R_drewN | apply Kd.R_drew)); exact HO_4.out))) (Kd.R_lt (by (with_reducible repeat (first | apply Kd.R_alloc | apply Kd.R_drewN | apply Kd.R_drew)); exact HO_7.out))) (Kd.R_lt (by (with_reducible repeat (first | apply Kd.R_alloc | apply Kd.R_drewN | apply Kd.R_drew)); exact HO351.out))) (below_size (by repeat (first | (with_reducible first | exact HB.out | apply below_alloc | apply pw_below_drewN | apply below_drew1) | exact HB.out)))); have n5_ := Aside0.mk (Kd.C_below (by repeat (first | (with_reducible exact HR347.out) | (with_reducible refine Kd.C_alloc ?_ _) | (with_reducible refine Kd.C_drewN ?_ _) | (with_reducible refine Kd.C_drew ?_) | exact HR347.out)) hb); have n6_ := Aside0.mk (Kd.C_below (by repeat (first | (with_reducible exact HR355.out) | (with_reducible refine Kd.C_alloc ?_ _) | (with_reducible refine Kd.C_drewN ?_ _) | (with_reducible refine Kd.C_drew ?_) | exact HR355.out)) hb); have n7_ := Aside0.mk (below_step (by repeat (first | (with_reducible first | exact HB.out | apply below_alloc | apply pw_below_drewN | apply below_drew1) | exact HB.out)) hb); clear HO_4; clear HO_5; clear HO_7; clear HO351; clear HR347; clear HR355; clear HB; have HO_4 := n0_; have HO_5 := n1_; have HO_7 := n2_; have HO351 := n3_; have HO359 := n4_; have HR347 := n5_; have HR355 := n6_; have HB := n7_; clear n0_ n1_ n2_ n3_ n4_ n5_ n6_ n7_; (try clear hb); (try clear hb2); (try clear hk); (try clear hi); (try clear ho0))); go_upto_region 13 with (first | (go_at_call 19; (with_reducible refine (impl_Drive.calls kj26 t330 _ _ t331 _ _ y344 (Int.tmod t337 4) t348 t349 _ ?side1 ?side2 ?side3 ?side4 A33.out).mono ?_); (case side1 => repeat (first | exact (Kd.R_reads' HO_4.out).2.2 | (with_reducible refine Kd.C_alloc ?_ _) | (with_reducible refine Kd.C_drewN ?_ _) | (with_reducible refine Kd.C_drew ?_))); (case side2 => exact (Kd.R_reads' HO_4.out).2.1); (case side3 => repeat (first | exact (by repeat (first | (with_reducible exact HR347.out) | (with_reducible refine Kd.C_alloc ?_ _) | (with_reducible refine Kd.C_drewN ?_ _) | (with_reducible refine Kd.C_drew ?_) | exact HR347.out)) | (with_reducible refine Kd.C_alloc ?_ _) | (with_reducible refine Kd.C_drewN ?_ _) | (with_reducible refine Kd.C_drew ?_))); (case side4 => exact HC347.out); rintro e w39 ⟨v350, rfl, ho0, hb⟩; have n0_ := Aside0.mk (Kd.R_elder' (by (with_reducible repeat (first | apply Kd.R_alloc | apply Kd.R_drewN | apply Kd.R_drew)); exact HO_4.out) (Kd.R_base ho0) hb); have n1_ := Aside0.mk (Kd.R_below (by (with_reducible repeat (first | apply Kd.R_alloc | apply Kd.R_drewN | apply Kd.R_drew)); exact HO_5.out) hb); have n2_ := Aside0.mk (Kd.R_elder' (by (with_reducible repeat (first | apply Kd.R_alloc | apply Kd.R_drewN | apply Kd.R_drew)); exact HO_7.out) (Kd.R_base ho0) hb); have n3_ := Aside0.mk (Kd.R_lower (Kd.R_new' (Kd.R_new' ho0 (Kd.R_lt (by (with_reducible repeat (first | apply Kd.R_alloc | apply Kd.R_drewN | apply Kd.R_drew)); exact HO_4.out))) (Kd.R_lt (by (with_reducible repeat (first | apply Kd.R_alloc | apply Kd.R_drewN | apply Kd.R_drew)); exact HO_7.out))) (below_size (by repeat (first | (with_reducible first | exact HB.out | apply below_alloc | apply pw_below_drewN | apply below_drew1) | exact HB.out)))); have n4_ := Aside0.mk (Kd.C_below (by repeat (first | (with_reducible exact HR347.out) | (with_reducible refine Kd.C_alloc ?_ _) | (with_reducible refine Kd.C_drewN ?_ _) | (with_reducible refine Kd.C_drew ?_) | exact HR347.out)) hb); have n5_ := Aside0.mk (below_step (by repeat (first | (with_reducible first | exact HB.out | apply below_alloc | apply pw_below_drewN | apply below_drew1) | exact HB.out)) hb); clear HO_4; clear HO_5; clear HO_7; clear HR347; clear HB; have HO_4 := n0_; have HO_5 := n1_; have HO_7 := n2_; have HO351 := n3_; have HR347 := n4_; have HB := n5_; clear n0_ n1_ n2_ n3_ n4_ n5_; (try clear hb); (try clear hb2); (try clear hk); (try clear hi); (try clear ho0); have q40 : (x9_26 : Int) ≤ ((t332.length : Int) : Int) := of_decide_eq_true (by first | (with_reducible assumption) | assumption); obtain ⟨i040, hi040, _, hsz40, _⟩ := info_parts info3; have hroom40 : t332.length ≤ co10 := (Kd.R_reads' HO_5.out).2.1; have hC40 : Kd.C (Kd.int .i64) _ Ao10 t332.length t332 := (Kd.R_reads' HO_5.out).2.2; have q040 : (0 : Int) ≤ (x9_26 : Int) := of_decide_eq_true (by first | (with_reducible assumption) | assumption); have hcut40 := cut_from (P := Try.prog) 26 3 .i64 Try.underlying26 hi040 1 hsz40 Ao10 t332.length co10 x9_26 q040 q40; have hr40 := Kd.C_drop (m := (x9_26 : Int).toNat) (c := co10) hC40 (by omega) hroom40; obtain ⟨A40, hA40⟩ : ∃ A_, A_ = (if co10 = (x9_26 : Int).toNat then Ao10 else (Ao10 : Option Addr).map (·.add ((x9_26 : Int).toNat * 1))) := ⟨_, rfl⟩; obtain ⟨c40, hc40⟩ : ∃ c_, c_ = co10 - (x9_26 : Int).toNat := ⟨_, rfl⟩; have hy40 : y352.length = t332.length - (x9_26 : Int).toNat := (by rw [Ny352.out, List.length_drop] <;> omega); rw [show (t332).drop (x9_26 : Int).toNat = y352 from Ny352.out.symm] at hr40; replace hr40 : Kd.C (Kd.int .i64) _ A40 y352.length y352 := (by rw [hA40]; exact hr40); rw [← hy40, ← hA40, ← hc40] at hcut40; have HR355 := Aside0.mk hr40; have HC355 := Aside0.mk (show y352.length ≤ c40 from by rw [hy40, hc40]; exact Nat.sub_le_sub_right hroom40 _); clear hr40 hC40 hroom40 hi040 hsz40 hc40; have KY40 := Aside0.mk hy40; have KA40 := Aside0.mk hA40; clear hy40 hA40; have KL40 := Aside0.mk (show (x9_26 : Int).toNat ≤ t332.length from by omega); replace q40 := eq_true q40; obtain ⟨Ao41, co41, eo41⟩ := Kd.R_slice HO351.out; subst eo41) | (go_at_call 19; (with_reducible refine (impl_Drive.calls kj26 t330 _ _ t348 _ _ y352 (Int.tmod t337 4) t356 t357 _ ?side1 ?side2 ?side3 ?side4 A36.out).mono ?_); (case side1 => repeat (first | exact (Kd.R_reads' HO351.out).2.2 | (with_reducible refine Kd.C_alloc ?_ _) | (with_reducible refine Kd.C_drewN ?_ _) | (with_reducible refine Kd.C_drew ?_))); (case side2 => exact (Kd.R_reads' HO351.out).2.1); (case side3 => repeat (first | exact (by repeat (first | (with_reducible exact HR355.out) | (with_reducible refine Kd.C_alloc ?_ _) | (with_reducible refine Kd.C_drewN ?_ _) | (with_reducible refine Kd.C_drew ?_) | exact HR355.out)) | (with_reducible refine Kd.C_alloc ?_ _) | (with_reducible refine Kd.C_drewN ?_ _) | (with_reducible refine Kd.C_drew ?_))); (case side4 => exact HC355.out); rintro e w42 ⟨v358, rfl, ho0, hb⟩; have n0_ := Aside0.mk (Kd.R_elder' (by (with_reducible repeat (first | apply Kd.R_alloc | apply Kd.R_drewN | apply Kd.R_drew)); exact HO_4.out) (Kd.R_base ho0) hb); have n1_ := Aside0.mk (Kd.R_below (by (with_reducible repeat (first | apply Kd.R_alloc | apply Kd.R_drewN | apply Kd.R_drew)); exact HO_5.out) hb); have n2_ := Aside0.mk (Kd.R_elder' (by (with_reducible repeat (first | apply Kd.R_alloc | apply Kd.R_drewN | apply Kd.R_drew)); exact HO_7.out) (Kd.R_base ho0) hb); have n3_ := Aside0.mk (Kd.R_elder' (by (with_reducible repeat (first | apply Kd.R_alloc | apply Kd.R_drewN | apply Kd.R_drew)); exact HO351.out) (Kd.R_base ho0) hb); have n4_ := Aside0.mk (Kd.R_lower (Kd.R_new' (Kd.R_new' (Kd.R_new' ho0 (Kd.R_lt (by (with_reducible repeat (first | apply Kd.R_alloc | apply Kd.R_drewN | apply Kd.R_drew)); exact HO_4.out))) (Kd.R_lt (by (with_reducible repeat (first | apply Kd.R_alloc | apply Kd.R_drewN | apply Kd.R_drew)); exact HO_7.out))) (Kd.R_lt (by (with_reducible repeat (first | apply Kd.R_alloc | apply Kd.R_drewN | apply Kd.R_drew)); exact HO351.out))) (below_size (by repeat (first | (with_reducible first | exact HB.out | apply below_alloc | apply pw_below_drewN | apply below_drew1) | exact HB.out)))); have n5_ := Aside0.mk (Kd.C_below (by repeat (first | (with_reducible exact HR347.out) | (with_reducible refine Kd.C_alloc ?_ _) | (with_reducible refine Kd.C_drewN ?_ _) | (with_reducible refine Kd.C_drew ?_) | exact HR347.out)) hb); have n6_ := Aside0.mk (Kd.C_below (by repeat (first | (with_reducible exact HR355.out) | (with_reducible refine Kd.C_alloc ?_ _) | (with_reducible refine Kd.C_drewN ?_ _) | (with_reducible refine Kd.C_drew ?_) | exact HR355.out)) hb); have n7_ := Aside0.mk (below_step (by repeat (first | (with_reducible first | exact HB.out | apply below_alloc | apply pw_below_drewN | apply below_drew1) | exact HB.out)) hb); clear HO_4; clear HO_5; clear HO_7; clear HO351; clear HR347; clear HR355; clear HB; have HO_4 := n0_; have HO_5 := n1_; have HO_7 := n2_; have HO351 := n3_; have HO359 := n4_; have HR347 := n5_; have HR355 := n6_; have HB := n7_; clear n0_ n1_ n2_ n3_ n4_ n5_ n6_ n7_; (try clear hb); (try clear hb2); (try clear hk); (try clear hi); (try clear ho0))))
         (try simp only [Act.put, List.setIfInBounds_toArray, List.set_cons_zero, List.set_cons_succ])
         go_cut [108] (fun v108 wc => ∃ (kq : Nat) (x108_36 : Bool), v108 = .bool x108_36 ∧ Aside0 (laws_FnDrive.j2 kq t330 t331 t332 (Int.tmod t337 4) t338 t356 x108_36 = some true) ∧ Aside0 (kq ≤ kj26) ∧ Aside0 (Kd.R k51 51 wc w.heap.size (fun k_ => some k_ ≠ (v340 : Value).ownBlock ∧ some k_ ≠ (v358 : Value).ownBlock) (.slice Ao9 t331.length co9) t331) ∧ Aside0 (Kd.R (Kd.int .i64) 3 wc w.heap.size (fun _ => True) (.slice Ao10 t332.length co10) t332) ∧ Aside0 (Kd.R k51 51 wc w.heap.size (fun k_ => some k_ ≠ ((.slice Ao9 t331.length co9) : Value).ownBlock ∧ some k_ ≠ (v358 : Value).ownBlock) v340 t338) ∧ Aside0 (Kd.R k51 51 wc w.heap.size (fun k_ => some k_ ≠ ((.slice Ao9 t331.length co9) : Value).ownBlock ∧ some k_ ≠ (v340 : Value).ownBlock) v358 t356) ∧ Aside0 (Kd.C (Kd.int .i64) wc Ao10 y344.length y344) ∧ Aside0 (Kd.C (Kd.int .i64) wc A40 y352.length y352) ∧ Aside0 (Below w.heap.size w wc))
         case first =>
          have H := HC37.out
          clear HC37
          by_cases c43 : (wrap64 (t349 + t357)) = t339
          ·rw [if_pos c43] at H
           have c43b0 : ((wrap64 (t349 + t357)) == t339) = true := beq_iff_eq.mpr c43
           have c43b1 : ((wrap64 (t349 + t357)) != t339) = false := bne_eq_false_iff_eq.mpr c43
           clear c43
           (first | rw [c43b0] | (simp only [i64_w, i32_w]; rw [c43b0]) | rw [c43b1] | skip)
           have H' := Aside0.mk H
           clear H
           obtain ⟨Ao44, co44, eo44⟩ := Kd.R_slice HO359.out
           subst eo44
           obtain ⟨Ao45, co45, eo45⟩ := Kd.R_slice HO_7.out
           subst eo45
           go_wp2
           repeat (go_quiet (fail); try go_wp2)
           go_meet
           case rel => exact ⟨_, (((t356.length : Int) != (t338.length : Int))), (by first | rfl | (simp; done) | (simp [*]; done)), H', ⟨by have := HJ6.out; have := HJ26.out; first | omega | exact Nat.le_refl _⟩, ⟨by (with_reducible repeat (first | apply Kd.R_alloc | apply Kd.R_drewN | apply Kd.R_drew)); exact Kd.R_mono HO_4.out (fun _ hk => ⟨hk.1.1, hk.2⟩)⟩, ⟨by (with_reducible repeat (first | apply Kd.R_alloc | apply Kd.R_drewN | apply Kd.R_drew)); exact HO_5.out⟩, ⟨by (with_reducible repeat (first | apply Kd.R_alloc | apply Kd.R_drewN | apply Kd.R_drew)); exact Kd.R_mono HO_7.out (fun _ hk => ⟨hk.1.1, hk.2⟩)⟩, ⟨by (with_reducible repeat (first | apply Kd.R_alloc | apply Kd.R_drewN | apply Kd.R_drew)); exact Kd.R_mono HO359.out (fun _ hk => ⟨hk.1.1.2, hk.1.2⟩)⟩, ⟨by repeat (first | (with_reducible exact HR347.out) | (with_reducible refine Kd.C_alloc ?_ _) | (with_reducible refine Kd.C_drewN ?_ _) | (with_reducible refine Kd.C_drew ?_) | exact HR347.out)⟩, ⟨by repeat (first | (with_reducible exact HR355.out) | (with_reducible refine Kd.C_alloc ?_ _) | (with_reducible refine Kd.C_drewN ?_ _) | (with_reducible refine Kd.C_drew ?_) | exact HR355.out)⟩, ⟨by repeat (first | (with_reducible first | exact HB.out | apply below_alloc | apply pw_below_drewN | apply below_drew1) | exact HB.out)⟩⟩
          ·rw [if_neg c43] at H
           have c43b0 : ((wrap64 (t349 + t357)) == t339) = false := beq_eq_false_iff_ne.mpr c43
           have c43b1 : ((wrap64 (t349 + t357)) != t339) = true := bne_iff_ne.mpr c43
           (first | rw [c43b0] | (simp only [i64_w, i32_w]; rw [c43b0]) | rw [c43b1] | skip)
           have H' := Aside0.mk H
           clear H
           go_wp2
           repeat (go_quiet (fail); try go_wp2)
           go_meet
           case rel => exact ⟨_, (true), (by first | rfl | (simp; done) | (simp [*]; done)), H', ⟨by have := HJ6.out; have := HJ26.out; first | omega | exact Nat.le_refl _⟩, ⟨by (with_reducible repeat (first | apply Kd.R_alloc | apply Kd.R_drewN | apply Kd.R_drew)); exact Kd.R_mono HO_4.out (fun _ hk => ⟨hk.1.1, hk.2⟩)⟩, ⟨by (with_reducible repeat (first | apply Kd.R_alloc | apply Kd.R_drewN | apply Kd.R_drew)); exact HO_5.out⟩, ⟨by (with_reducible repeat (first | apply Kd.R_alloc | apply Kd.R_drewN | apply Kd.R_drew)); exact Kd.R_mono HO_7.out (fun _ hk => ⟨hk.1.1, hk.2⟩)⟩, ⟨by (with_reducible repeat (first | apply Kd.R_alloc | apply Kd.R_drewN | apply Kd.R_drew)); exact Kd.R_mono HO359.out (fun _ hk => ⟨hk.1.1.2, hk.1.2⟩)⟩, ⟨by repeat (first | (with_reducible exact HR347.out) | (with_reducible refine Kd.C_alloc ?_ _) | (with_reducible refine Kd.C_drewN ?_ _) | (with_reducible refine Kd.C_drew ?_) | exact HR347.out)⟩, ⟨by repeat (first | (with_reducible exact HR355.out) | (with_reducible refine Kd.C_alloc ?_ _) | (with_reducible refine Kd.C_drewN ?_ _) | (with_reducible refine Kd.C_drew ?_) | exact HR355.out)⟩, ⟨by repeat (first | (with_reducible first | exact HB.out | apply below_alloc | apply pw_below_drewN | apply below_drew1) | exact HB.out)⟩⟩
         case rest =>
          clear HC37
          try clear c1
          try clear c2
          try clear p2
          try clear c3
          try clear q3
          try clear c4
          try clear q4
          try clear c5
          try clear p6
          try clear c12
          try clear c12b0
          try clear c12b1
          try clear c13
          try clear c13b0
          try clear c15
          try clear c16
          try clear c16b0
          try clear c16b1
          try clear c19
          try clear c19b0
          try clear c19b1
          try clear c26
          try clear c28
          try clear c28b0
          try clear c28b1
          try clear c30
          try clear c30b0
          try clear c30b1
          try clear c31
          try clear c31b0
          try clear c31b1
          try clear c32
          try clear c32b0
          try clear c32b1
          try clear c34
          try clear c34b0
          try clear c35
          try clear c35b0
          try clear q38
          try clear c40
          try clear q40
          try clear c43
          try clear c43b0
          try clear c43b1
          try clear p2
          try clear p6
          try clear q040
          try clear q38
          try clear q40
          obtain ⟨kq, x108_36, rfl, HA, HJ36, HO_4, HO_5, HO_7, HO_12, HR347, HR355, HB⟩ := hcut
          cases kq with
          | zero => exact absurd HA.out (by simp [laws_FnDrive.j2])
          | succ kj36 =>
           have H := HA.out
           clear HA
           simp only [laws_FnDrive.j2] at H
           by_cases c46 : x108_36 = true
           ·subst c46
            have H1 : (some false) = some true := by (first | (rw [if_pos rfl] at H; exact H) | rfl)
            clear H
            have H := H1
            clear H1
            exact absurd (Option.some.inj H) (by decide)
           ·replace c46 := Bool.eq_false_iff.mpr c46
            subst c46
            have H1 : (laws_FnDrive.l0 kj36 t330 t331 t332 (Int.tmod t337 4) t338 t356 0) = some true := by (first | (rw [if_neg (show ¬ (false = true) by decide)] at H; exact H) | rfl)
            clear H
            have H := H1
            clear H1
            have H' := Aside0.mk H
            clear H
            go_wp2
            repeat (go_quiet (fail); try go_wp2)
            go_loopg [14] kj36 (fun kq v14 w' => ∃ (x14_4 : Int), v14 = .int .i64 x14_4 ∧ Aside0 (laws_FnDrive.l0 kq t330 t331 t332 (Int.tmod t337 4) t338 t356 x14_4 = some true) ∧ Aside0 (kq ≤ kj36) ∧ Aside0 (Kd.R k51 51 w' w.heap.size (fun k_ => some k_ ≠ (v340 : Value).ownBlock ∧ some k_ ≠ (v358 : Value).ownBlock) (.slice Ao9 t331.length co9) t331) ∧ Aside0 (Kd.R (Kd.int .i64) 3 w' w.heap.size (fun _ => True) (.slice Ao10 t332.length co10) t332) ∧ Aside0 (Kd.R k51 51 w' w.heap.size (fun k_ => some k_ ≠ ((.slice Ao9 t331.length co9) : Value).ownBlock ∧ some k_ ≠ (v358 : Value).ownBlock) v340 t338) ∧ Aside0 (Kd.R k51 51 w' w.heap.size (fun k_ => some k_ ≠ ((.slice Ao9 t331.length co9) : Value).ownBlock ∧ some k_ ≠ (v340 : Value).ownBlock) v358 t356) ∧ Aside0 (Kd.C (Kd.int .i64) w' Ao10 y344.length y344) ∧ Aside0 (Kd.C (Kd.int .i64) w' A40 y352.length y352) ∧ Aside0 (Below w.heap.size w w'))
            case atStart => exact ⟨(0), (by first | rfl | (simp; done) | (simp [*]; done)), H', ⟨Nat.le_refl _⟩, ⟨by (with_reducible repeat (first | apply Kd.R_alloc | apply Kd.R_drewN | apply Kd.R_drew)); exact HO_4.out⟩, ⟨by (with_reducible repeat (first | apply Kd.R_alloc | apply Kd.R_drewN | apply Kd.R_drew)); exact HO_5.out⟩, ⟨by (with_reducible repeat (first | apply Kd.R_alloc | apply Kd.R_drewN | apply Kd.R_drew)); exact HO_7.out⟩, ⟨by (with_reducible repeat (first | apply Kd.R_alloc | apply Kd.R_drewN | apply Kd.R_drew)); exact HO_12.out⟩, ⟨by repeat (first | (with_reducible exact HR347.out) | (with_reducible refine Kd.C_alloc ?_ _) | (with_reducible refine Kd.C_drewN ?_ _) | (with_reducible refine Kd.C_drew ?_) | exact HR347.out)⟩, ⟨by repeat (first | (with_reducible exact HR355.out) | (with_reducible refine Kd.C_alloc ?_ _) | (with_reducible refine Kd.C_drewN ?_ _) | (with_reducible refine Kd.C_drew ?_) | exact HR355.out)⟩, ⟨by repeat (first | (with_reducible first | exact HB.out | apply below_alloc | apply pw_below_drewN | apply below_drew1) | exact HB.out)⟩⟩
            case round =>
             clear H'
             try clear c1
             try clear c2
             try clear p2
             try clear c3
             try clear q3
             try clear c4
             try clear q4
             try clear c5
             try clear p6
             try clear c12
             try clear c12b0
             try clear c12b1
             try clear c13
             try clear c13b0
             try clear c15
             try clear c16
             try clear c16b0
             try clear c16b1
             try clear c19
             try clear c19b0
             try clear c19b1
             try clear c26
             try clear c28
             try clear c28b0
             try clear c28b1
             try clear c30
             try clear c30b0
             try clear c30b1
             try clear c31
             try clear c31b0
             try clear c31b1
             try clear c32
             try clear c32b0
             try clear c32b1
             try clear c34
             try clear c34b0
             try clear c35
             try clear c35b0
             try clear q38
             try clear c40
             try clear q40
             try clear c43
             try clear c43b0
             try clear c43b1
             try clear c46
             try clear p2
             try clear p6
             try clear q040
             try clear q3
             try clear q38
             try clear q4
             try clear q40
             obtain ⟨x14_4, rfl, HA, HK4, HO_4, HO_5, HO_7, HO_12, HR347, HR355, HB⟩ := hrel
             cases gk with
             | zero => exact absurd HA.out (by simp [laws_FnDrive.l0])
             | succ k4 =>
              have H := HA.out
              clear HA
              simp only [laws_FnDrive.l0] at H
              by_cases c47 : x14_4 < (t338.length : Int)
              ·rw [if_pos c47] at H
               have c47b0 : decide (x14_4 < (t338.length : Int)) = true := decide_eq_true c47
               clear c47
               by_cases c48 : 0 ≤ x14_4
               ·rw [if_pos c48] at H
                have c48b0 : decide (0 ≤ x14_4) = true := decide_eq_true c48
                clear c48
                by_cases c49 : x14_4 < (t356.length : Int)
                ·rw [if_pos c49] at H
                 have c49b0 : decide (x14_4 < (t356.length : Int)) = true := decide_eq_true c49
                 clear c49
                 by_cases c50 : (!(((rd_T51 t338 x14_4).f0) == ((rd_T51 t356 x14_4).f0)) || (!(((rd_T51 t338 x14_4).f1) == ((rd_T51 t356 x14_4).f1)))) = true
                 ·rw [if_pos c50] at H
                  have c50b0 : (!(((rd_T51 t338 x14_4).f0) == ((rd_T51 t356 x14_4).f0)) || (!(((rd_T51 t338 x14_4).f1) == ((rd_T51 t356 x14_4).f1)))) = true := c50
                  clear c50
                  exact absurd (Option.some.inj H) (by decide)
                 ·rw [if_neg c50] at H
                  have c50b0 : (!(((rd_T51 t338 x14_4).f0) == ((rd_T51 t356 x14_4).f0)) || (!(((rd_T51 t338 x14_4).f1) == ((rd_T51 t356 x14_4).f1)))) = false := by simpa using c50
                  clear c50
                  by_cases c51 : (Int.tmod t337 4) = 0
                  ·rw [if_pos c51] at H
                   have c51b0 : ((Int.tmod t337 4) == 0) = true := beq_iff_eq.mpr c51
                   have c51b1 : ((Int.tmod t337 4) != 0) = false := bne_eq_false_iff_eq.mpr c51
                   clear c51
                   by_cases c52 : x14_4 < (t331.length : Int)
                   ·rw [if_pos c52] at H
                    have c52b0 : decide (x14_4 < (t331.length : Int)) = true := decide_eq_true c52
                    clear c52
                    by_cases c53 : ((rd_T51 t338 x14_4).f1) < ((rd_T51 t331 x14_4).f1)
                    ·rw [if_pos c53] at H
                     have c53b0 : decide (((rd_T51 t338 x14_4).f1) < ((rd_T51 t331 x14_4).f1)) = true := decide_eq_true c53
                     clear c53
                     exact absurd (Option.some.inj H) (by decide)
                    ·rw [if_neg c53] at H
                     have c53b0 : decide (((rd_T51 t338 x14_4).f1) < ((rd_T51 t331 x14_4).f1)) = false := decide_eq_false c53
                     clear c53
                     by_cases c54 : ((rd_T51 t338 x14_4).f0) < ((rd_T51 t331 x14_4).f0)
                     ·rw [if_pos c54] at H
                      have c54b0 : decide (((rd_T51 t338 x14_4).f0) < ((rd_T51 t331 x14_4).f0)) = true := decide_eq_true c54
                      clear c54
                      exact absurd (Option.some.inj H) (by decide)
                     ·rw [if_neg c54] at H
                      have c54b0 : decide (((rd_T51 t338 x14_4).f0) < ((rd_T51 t331 x14_4).f0)) = false := decide_eq_false c54
                      clear c54
                      have H' := Aside0.mk H
                      clear H
                      obtain ⟨Ao55, co55, eo55⟩ := Kd.R_slice HO_7.out
                      subst eo55
                      have p360 : 0 ≤ (x14_4 : Int) := of_decide_eq_true (by first | (with_reducible assumption) | assumption)
                      have q360 : x14_4 < (t338.length : Int) := of_decide_eq_true (by first | (with_reducible assumption) | assumption)
                      obtain ⟨ad360, e360, hx360_0, hx360_1⟩ := at_T51 (Kd.R_reads' HO_7.out).2.2 x14_4 p360 q360
                      cases e360
                      replace p360 := eq_true p360
                      replace q360 := eq_true q360
                      obtain ⟨Ao56, co56, eo56⟩ := Kd.R_slice HO_12.out
                      subst eo56
                      have p361 : 0 ≤ (x14_4 : Int) := of_decide_eq_true (by first | (with_reducible assumption) | assumption)
                      have q361 : x14_4 < (t356.length : Int) := of_decide_eq_true (by first | (with_reducible assumption) | assumption)
                      obtain ⟨ad361, e361, hx361_0, hx361_1⟩ := at_T51 (Kd.R_reads' HO_12.out).2.2 x14_4 p361 q361
                      cases e361
                      replace p361 := eq_true p361
                      replace q361 := eq_true q361
                      have p362 : 0 ≤ (x14_4 : Int) := of_decide_eq_true (by first | (with_reducible assumption) | assumption)
                      have q362 : x14_4 < (t338.length : Int) := of_decide_eq_true (by first | (with_reducible assumption) | assumption)
                      obtain ⟨ad362, e362, hx362_0, hx362_1⟩ := at_T51 (Kd.R_reads' HO_7.out).2.2 x14_4 p362 q362
                      obtain rfl : ad360 = ad362 := (by injection e362)
                      replace p362 := eq_true p362
                      replace q362 := eq_true q362
                      have p363 : 0 ≤ (x14_4 : Int) := of_decide_eq_true (by first | (with_reducible assumption) | assumption)
                      have q363 : x14_4 < (t331.length : Int) := of_decide_eq_true (by first | (with_reducible assumption) | assumption)
                      obtain ⟨ad363, e363, hx363_0, hx363_1⟩ := at_T51 (Kd.R_reads' HO_4.out).2.2 x14_4 p363 q363
                      cases e363
                      replace p363 := eq_true p363
                      replace q363 := eq_true q363
                      have p364 : 0 ≤ (x14_4 : Int) := of_decide_eq_true (by first | (with_reducible assumption) | assumption)
                      have q364 : x14_4 < (t338.length : Int) := of_decide_eq_true (by first | (with_reducible assumption) | assumption)
                      obtain ⟨ad364, e364, hx364_0, hx364_1⟩ := at_T51 (Kd.R_reads' HO_7.out).2.2 x14_4 p364 q364
                      obtain rfl : ad360 = ad364 := (by injection e364)
                      replace p364 := eq_true p364
                      replace q364 := eq_true q364
                      have p365 : 0 ≤ (x14_4 : Int) := of_decide_eq_true (by first | (with_reducible assumption) | assumption)
                      have q365 : x14_4 < (t331.length : Int) := of_decide_eq_true (by first | (with_reducible assumption) | assumption)
                      obtain ⟨ad365, e365, hx365_0, hx365_1⟩ := at_T51 (Kd.R_reads' HO_4.out).2.2 x14_4 p365 q365
                      obtain rfl : ad363 = ad365 := (by injection e365)
                      replace p365 := eq_true p365
                      replace q365 := eq_true q365
                      go_wp2
                      repeat (go_quiet (fail); try go_wp2)
                      go_roundg k4
                      case measure => have := HJ6.out; have := HJ26.out; have := HJ36.out; have := HK4.out; omega
                      case rel => exact ⟨(wrap64 (x14_4 + 1)), (by first | rfl | (simp; done) | (simp [*]; done)), H', ⟨by have := HJ6.out; have := HJ26.out; have := HJ36.out; have := HK4.out; omega⟩, ⟨by (with_reducible repeat (first | apply Kd.R_alloc | apply Kd.R_drewN | apply Kd.R_drew)); exact HO_4.out⟩, ⟨by (with_reducible repeat (first | apply Kd.R_alloc | apply Kd.R_drewN | apply Kd.R_drew)); exact HO_5.out⟩, ⟨by (with_reducible repeat (first | apply Kd.R_alloc | apply Kd.R_drewN | apply Kd.R_drew)); exact HO_7.out⟩, ⟨by (with_reducible repeat (first | apply Kd.R_alloc | apply Kd.R_drewN | apply Kd.R_drew)); exact HO_12.out⟩, ⟨by repeat (first | (with_reducible exact HR347.out) | (with_reducible refine Kd.C_alloc ?_ _) | (with_reducible refine Kd.C_drewN ?_ _) | (with_reducible refine Kd.C_drew ?_) | exact HR347.out)⟩, ⟨by repeat (first | (with_reducible exact HR355.out) | (with_reducible refine Kd.C_alloc ?_ _) | (with_reducible refine Kd.C_drewN ?_ _) | (with_reducible refine Kd.C_drew ?_) | exact HR355.out)⟩, ⟨by repeat (first | (with_reducible first | exact HB.out | apply below_alloc | apply pw_below_drewN | apply below_drew1) | exact HB.out)⟩⟩
                   ·rw [if_neg c52] at H
                    exact absurd H (by simp)
                  ·rw [if_neg c51] at H
                   have c51b0 : ((Int.tmod t337 4) == 0) = false := beq_eq_false_iff_ne.mpr c51
                   have c51b1 : ((Int.tmod t337 4) != 0) = true := bne_iff_ne.mpr c51
                   have H' := Aside0.mk H
                   clear H
                   obtain ⟨Ao57, co57, eo57⟩ := Kd.R_slice HO_7.out
                   subst eo57
                   have p360 : 0 ≤ (x14_4 : Int) := of_decide_eq_true (by first | (with_reducible assumption) | assumption)
                   have q360 : x14_4 < (t338.length : Int) := of_decide_eq_true (by first | (with_reducible assumption) | assumption)
                   obtain ⟨ad360, e360, hx360_0, hx360_1⟩ := at_T51 (Kd.R_reads' HO_7.out).2.2 x14_4 p360 q360
                   cases e360
                   replace p360 := eq_true p360
                   replace q360 := eq_true q360
                   obtain ⟨Ao58, co58, eo58⟩ := Kd.R_slice HO_12.out
                   subst eo58
                   have p361 : 0 ≤ (x14_4 : Int) := of_decide_eq_true (by first | (with_reducible assumption) | assumption)
                   have q361 : x14_4 < (t356.length : Int) := of_decide_eq_true (by first | (with_reducible assumption) | assumption)
                   obtain ⟨ad361, e361, hx361_0, hx361_1⟩ := at_T51 (Kd.R_reads' HO_12.out).2.2 x14_4 p361 q361
                   cases e361
                   replace p361 := eq_true p361
                   replace q361 := eq_true q361
                   go_wp2
                   repeat (go_quiet (fail); try go_wp2)
                   go_roundg k4
                   case measure => have := HJ6.out; have := HJ26.out; have := HJ36.out; have := HK4.out; omega
                   case rel => exact ⟨(wrap64 (x14_4 + 1)), (by first | rfl | (simp; done) | (simp [*]; done)), H', ⟨by have := HJ6.out; have := HJ26.out; have := HJ36.out; have := HK4.out; omega⟩, ⟨by (with_reducible repeat (first | apply Kd.R_alloc | apply Kd.R_drewN | apply Kd.R_drew)); exact HO_4.out⟩, ⟨by (with_reducible repeat (first | apply Kd.R_alloc | apply Kd.R_drewN | apply Kd.R_drew)); exact HO_5.out⟩, ⟨by (with_reducible repeat (first | apply Kd.R_alloc | apply Kd.R_drewN | apply Kd.R_drew)); exact HO_7.out⟩, ⟨by (with_reducible repeat (first | apply Kd.R_alloc | apply Kd.R_drewN | apply Kd.R_drew)); exact HO_12.out⟩, ⟨by repeat (first | (with_reducible exact HR347.out) | (with_reducible refine Kd.C_alloc ?_ _) | (with_reducible refine Kd.C_drewN ?_ _) | (with_reducible refine Kd.C_drew ?_) | exact HR347.out)⟩, ⟨by repeat (first | (with_reducible exact HR355.out) | (with_reducible refine Kd.C_alloc ?_ _) | (with_reducible refine Kd.C_drewN ?_ _) | (with_reducible refine Kd.C_drew ?_) | exact HR355.out)⟩, ⟨by repeat (first | (with_reducible first | exact HB.out | apply below_alloc | apply pw_below_drewN | apply below_drew1) | exact HB.out)⟩⟩
                ·rw [if_neg c49] at H
                 exact absurd H (by simp)
               ·rw [if_neg c48] at H
                exact absurd H (by simp)
              ·rw [if_neg c47] at H
               have c47b0 : decide (x14_4 < (t338.length : Int)) = false := decide_eq_false c47
               clear c47
               replace H := Option.bind_eq_some_iff.mp H
               obtain ⟨⟨t366, t367⟩, A590, H⟩ := H
               replace H : (some ((t366.length : Int) == (t338.length : Int))) = some true := H
               have A59 := Aside0.mk A590
               clear A590
               have HRT : (((t366.length : Int) == (t338.length : Int))) = true := Option.some.inj H
               obtain ⟨Ao60, co60, eo60⟩ := Kd.R_slice HO_7.out
               subst eo60
               go_wp2_with (first | (go_at_call 21; (with_reducible refine (spec_Drive.calls k4 t330 _ _ t331 _ _ t332 (Int.tmod t337 4) t366 t367 _ ?side1 ?side2 ?side3 ?side4 A59.out).mono ?_); (case side1 => repeat (first | exact (Kd.R_reads' HO_4.out).2.2 | (with_reducible refine Kd.C_alloc ?_ _) | (with_reducible refine Kd.C_drewN ?_ _) | (with_reducible refine Kd.C_drew ?_))); (case side2 => exact (Kd.R_reads' HO_4.out).2.1); (case side3 => repeat (first | exact (Kd.R_reads' HO_5.out).2.2 | (with_reducible refine Kd.C_alloc ?_ _) | (with_reducible refine Kd.C_drewN ?_ _) | (with_reducible refine Kd.C_drew ?_))); (case side4 => exact (Kd.R_reads' HO_5.out).2.1); rintro e w61 ⟨v368, rfl, ho0, hb⟩; have n0_ := Aside0.mk (Kd.R_elder' (by (with_reducible repeat (first | apply Kd.R_alloc | apply Kd.R_drewN | apply Kd.R_drew)); exact HO_4.out) (Kd.R_base ho0) hb); have n1_ := Aside0.mk (Kd.R_below (by (with_reducible repeat (first | apply Kd.R_alloc | apply Kd.R_drewN | apply Kd.R_drew)); exact HO_5.out) hb); have n2_ := Aside0.mk (Kd.R_elder' (by (with_reducible repeat (first | apply Kd.R_alloc | apply Kd.R_drewN | apply Kd.R_drew)); exact HO_7.out) (Kd.R_base ho0) hb); have n3_ := Aside0.mk (Kd.R_elder' (by (with_reducible repeat (first | apply Kd.R_alloc | apply Kd.R_drewN | apply Kd.R_drew)); exact HO_12.out) (Kd.R_base ho0) hb); have n4_ := Aside0.mk (Kd.R_lower (Kd.R_new' (Kd.R_new' (Kd.R_new' ho0 (Kd.R_lt (by (with_reducible repeat (first | apply Kd.R_alloc | apply Kd.R_drewN | apply Kd.R_drew)); exact HO_4.out))) (Kd.R_lt (by (with_reducible repeat (first | apply Kd.R_alloc | apply Kd.R_drewN | apply Kd.R_drew)); exact HO_7.out))) (Kd.R_lt (by (with_reducible repeat (first | apply Kd.R_alloc | apply Kd.R_drewN | apply Kd.R_drew)); exact HO_12.out))) (below_size (by repeat (first | (with_reducible first | exact HB.out | apply below_alloc | apply pw_below_drewN | apply below_drew1) | exact HB.out)))); have n5_ := Aside0.mk (Kd.C_below (by repeat (first | (with_reducible exact HR347.out) | (with_reducible refine Kd.C_alloc ?_ _) | (with_reducible refine Kd.C_drewN ?_ _) | (with_reducible refine Kd.C_drew ?_) | exact HR347.out)) hb); have n6_ := Aside0.mk (Kd.C_below (by repeat (first | (with_reducible exact HR355.out) | (with_reducible refine Kd.C_alloc ?_ _) | (with_reducible refine Kd.C_drewN ?_ _) | (with_reducible refine Kd.C_drew ?_) | exact HR355.out)) hb); have n7_ := Aside0.mk (below_step (by repeat (first | (with_reducible first | exact HB.out | apply below_alloc | apply pw_below_drewN | apply below_drew1) | exact HB.out)) hb); clear HO_4; clear HO_5; clear HO_7; clear HO_12; clear HR347; clear HR355; clear HB; have HO_4 := n0_; have HO_5 := n1_; have HO_7 := n2_; have HO_12 := n3_; have HO369 := n4_; have HR347 := n5_; have HR355 := n6_; have HB := n7_; clear n0_ n1_ n2_ n3_ n4_ n5_ n6_ n7_; (try clear hb); (try clear hb2); (try clear hk); (try clear hi); (try clear ho0); obtain ⟨Ao62, co62, eo62⟩ := Kd.R_slice HO369.out; subst eo62))
               repeat (go_quiet (first | (go_at_call 21; (with_reducible refine (spec_Drive.calls k4 t330 _ _ t331 _ _ t332 (Int.tmod t337 4) t366 t367 _ ?side1 ?side2 ?side3 ?side4 A59.out).mono ?_); (case side1 => repeat (first | exact (Kd.R_reads' HO_4.out).2.2 | (with_reducible refine Kd.C_alloc ?_ _) | (with_reducible refine Kd.C_drewN ?_ _) | (with_reducible refine Kd.C_drew ?_))); (case side2 => exact (Kd.R_reads' HO_4.out).2.1); (case side3 => repeat (first | exact (Kd.R_reads' HO_5.out).2.2 | (with_reducible refine Kd.C_alloc ?_ _) | (with_reducible refine Kd.C_drewN ?_ _) | (with_reducible refine Kd.C_drew ?_))); (case side4 => exact (Kd.R_reads' HO_5.out).2.1); rintro e w61 ⟨v368, rfl, ho0, hb⟩; have n0_ := Aside0.mk (Kd.R_elder' (by (with_reducible repeat (first | apply Kd.R_alloc | apply Kd.R_drewN | apply Kd.R_drew)); exact HO_4.out) (Kd.R_base ho0) hb); have n1_ := Aside0.mk (Kd.R_below (by (with_reducible repeat (first | apply Kd.R_alloc | apply Kd.R_drewN | apply Kd.R_drew)); exact HO_5.out) hb); have n2_ := Aside0.mk (Kd.R_elder' (by (with_reducible repeat (first | apply Kd.R_alloc | apply Kd.R_drewN | apply Kd.R_drew)); exact HO_7.out) (Kd.R_base ho0) hb); have n3_ := Aside0.mk (Kd.R_elder' (by (with_reducible repeat (first | apply Kd.R_alloc | apply Kd.R_drewN | apply Kd.R_drew)); exact HO_12.out) (Kd.R_base ho0) hb); have n4_ := Aside0.mk (Kd.R_lower (Kd.R_new' (Kd.R_new' (Kd.R_new' ho0 (Kd.R_lt (by (with_reducible repeat (first | apply Kd.R_alloc | apply Kd.R_drewN | apply Kd.R_drew)); exact HO_4.out))) (Kd.R_lt (by (with_reducible repeat (first | apply Kd.R_alloc | apply Kd.R_drewN | apply Kd.R_drew)); exact HO_7.out))) (Kd.R_lt (by (with_reducible repeat (first | apply Kd.R_alloc | apply Kd.R_drewN | apply Kd.R_drew)); exact HO_12.out))) (below_size (by repeat (first | (with_reducible first | exact HB.out | apply below_alloc | apply pw_below_drewN | apply below_drew1) | exact HB.out)))); have n5_ := Aside0.mk (Kd.C_below (by repeat (first | (with_reducible exact HR347.out) | (with_reducible refine Kd.C_alloc ?_ _) | (with_reducible refine Kd.C_drewN ?_ _) | (with_reducible refine Kd.C_drew ?_) | exact HR347.out)) hb); have n6_ := Aside0.mk (Kd.C_below (by repeat (first | (with_reducible exact HR355.out) | (with_reducible refine Kd.C_alloc ?_ _) | (with_reducible refine Kd.C_drewN ?_ _) | (with_reducible refine Kd.C_drew ?_) | exact HR355.out)) hb); have n7_ := Aside0.mk (below_step (by repeat (first | (with_reducible first | exact HB.out | apply below_alloc | apply pw_below_drewN | apply below_drew1) | exact HB.out)) hb); clear HO_4; clear HO_5; clear HO_7; clear HO_12; clear HR347; clear HR355; clear HB; have HO_4 := n0_; have HO_5 := n1_; have HO_7 := n2_; have HO_12 := n3_; have HO369 := n4_; have HR347 := n5_; have HR355 := n6_; have HB := n7_; clear n0_ n1_ n2_ n3_ n4_ n5_ n6_ n7_; (try clear hb); (try clear hb2); (try clear hk); (try clear hi); (try clear ho0); obtain ⟨Ao62, co62, eo62⟩ := Kd.R_slice HO369.out; subst eo62)); try go_wp2_with (first | (go_at_call 21; (with_reducible refine (spec_Drive.calls k4 t330 _ _ t331 _ _ t332 (Int.tmod t337 4) t366 t367 _ ?side1 ?side2 ?side3 ?side4 A59.out).mono ?_); (case side1 => repeat (first | exact (Kd.R_reads' HO_4.out).2.2 | (with_reducible refine Kd.C_alloc ?_ _) | (with_reducible refine Kd.C_drewN ?_ _) | (with_reducible refine Kd.C_drew ?_))); (case side2 => exact (Kd.R_reads' HO_4.out).2.1); (case side3 => repeat (first | exact (Kd.R_reads' HO_5.out).2.2 | (with_reducible refine Kd.C_alloc ?_ _) | (with_reducible refine Kd.C_drewN ?_ _) | (with_reducible refine Kd.C_drew ?_))); (case side4 => exact (Kd.R_reads' HO_5.out).2.1); rintro e w61 ⟨v368, rfl, ho0, hb⟩; have n0_ := Aside0.mk (Kd.R_elder' (by (with_reducible repeat (first | apply Kd.R_alloc | apply Kd.R_drewN | apply Kd.R_drew)); exact HO_4.out) (Kd.R_base ho0) hb); have n1_ := Aside0.mk (Kd.R_below (by (with_reducible repeat (first | apply Kd.R_alloc | apply Kd.R_drewN | apply Kd.R_drew)); exact HO_5.out) hb); have n2_ := Aside0.mk (Kd.R_elder' (by (with_reducible repeat (first | apply Kd.R_alloc | apply Kd.R_drewN | apply Kd.R_drew)); exact HO_7.out) (Kd.R_base ho0) hb); have n3_ := Aside0.mk (Kd.R_elder' (by (with_reducible repeat (first | apply Kd.R_alloc | apply Kd.R_drewN | apply Kd.R_drew)); exact HO_12.out) (Kd.R_base ho0) hb); have n4_ := Aside0.mk (Kd.R_lower (Kd.R_new' (Kd.R_new' (Kd.R_new' ho0 (Kd.R_lt (by (with_reducible repeat (first | apply Kd.R_alloc | apply Kd.R_drewN | apply Kd.R_drew)); exact HO_4.out))) (Kd.R_lt (by (with_reducible repeat (first | apply Kd.R_alloc | apply Kd.R_drewN | apply Kd.R_drew)); exact HO_7.out))) (Kd.R_lt (by (with_reducible repeat (first | apply Kd.R_alloc | apply Kd.R_drewN | apply Kd.R_drew)); exact HO_12.out))) (below_size (by repeat (first | (with_reducible first | exact HB.out | apply below_alloc | apply pw_below_drewN | apply below_drew1) | exact HB.out)))); have n5_ := Aside0.mk (Kd.C_below (by repeat (first | (with_reducible exact HR347.out) | (with_reducible refine Kd.C_alloc ?_ _) | (with_reducible refine Kd.C_drewN ?_ _) | (with_reducible refine Kd.C_drew ?_) | exact HR347.out)) hb); have n6_ := Aside0.mk (Kd.C_below (by repeat (first | (with_reducible exact HR355.out) | (with_reducible refine Kd.C_alloc ?_ _) | (with_reducible refine Kd.C_drewN ?_ _) | (with_reducible refine Kd.C_drew ?_) | exact HR355.out)) hb); have n7_ := Aside0.mk (below_step (by repeat (first | (with_reducible first | exact HB.out | apply below_alloc | apply pw_below_drewN | apply below_drew1) | exact HB.out)) hb); clear HO_4; clear HO_5; clear HO_7; clear HO_12; clear HR347; clear HR355; clear HB; have HO_4 := n0_; have HO_5 := n1_; have HO_7 := n2_; have HO_12 := n3_; have HO369 := n4_; have HR347 := n5_; have HR355 := n6_; have HB := n7_; clear n0_ n1_ n2_ n3_ n4_ n5_ n6_ n7_; (try clear hb); (try clear hb2); (try clear hk); (try clear hi); (try clear ho0); obtain ⟨Ao62, co62, eo62⟩ := Kd.R_slice HO369.out; subst eo62)))
               go_ret
               exact ⟨by first | rfl | (simp [errW_none, errW_some] <;> rfl) | (simp [*, errW_none, errW_some] <;> rfl), by repeat (first | (with_reducible first | exact HB.out | apply below_alloc | apply pw_below_drewN | apply below_drew1) | exact HB.out)⟩
        ·rw [if_neg c32] at H
         exact absurd H (by simp)
       ·rw [if_neg c31] at H
        exact absurd H (by simp)

/-- THE ONE PURE STATEMENT of laws_FnDrive: yours. -/
def laws_FnDrive.Pure : Prop := ∀ (l0 : List Int), l0.length ≤ maxLen → l0.length * 1 ≤ 140737488351232 → (∀ x ∈ l0, (Lit.int .u8 x).wf = true) → ∃ k, laws_FnDrive.f k l0 = some true
theorem laws_FnDrive.walk (P : laws_FnDrive.Pure) (a0 : Option Addr) (len0 cap0 : Nat) (z0 : List Int) (w : World) (w0 : (a0 = none ∧ len0 = 0 ∧ cap0 = 0 ∧ z0 = []) ∨ ∃ x, a0 = some x ∧ len0 ≤ cap0 ∧ cap0 ≤ maxLen ∧ z0.length = cap0 ∧ (∀ i, i < z0.length → w.cell? (x.add i) = some (.int .u8 (z0.getD i 0))) ∧ ∀ n ∈ z0, (Lit.int .u8 n).wf = true) (y0 : len0 * 1 ≤ 140737488351232) :
  Calls Try.prog 5 #[.slice a0 len0 cap0] w fun e w' => e = .returned (.bool true) ∧ Below w.heap.size w w' := by
 obtain ⟨l0, rfl, hr0, hm0, hw0, hc0⟩ := ReadsInt.ofRowC w0
 obtain ⟨k, h⟩ := P l0 hm0 y0 hw0
 refine (laws_FnDrive.calls k _ _ l0 w (Kd.C_of_reads (d := (0 : Int)) (h1 := fun _ => rfl) hr0) hc0 h).mono ?_
 rintro e w' ⟨rfl, hd⟩
 exact ⟨rfl, hd⟩

end Go.Proofs.Ytmbonjljbienkaa.PFnDrive
