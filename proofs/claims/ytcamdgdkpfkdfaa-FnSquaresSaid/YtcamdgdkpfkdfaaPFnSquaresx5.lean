-- Written by a program of this session (wip/tools/fltprint.py: the kit's printer, taught more).
import Derived.Test.YtcamdgdkpfkdfaaPFnSquaresx0
import Derived.Test.YtcamdgdkpfkdfaaPFnSquaresx1
import Derived.Test.YtcamdgdkpfkdfaaPFnSquaresx2
import Derived.Test.YtcamdgdkpfkdfaaPFnSquaresx3
import Derived.Test.YtcamdgdkpfkdfaaPFnSquaresx4
namespace Go.Proofs.Ytcamdgdkpfkdfaa.PFnSquares
open Go.RowKit Go.Proofs.YtcamdgdkpfkdfaaW.PrintWords Go.Proofs.YtcamdgdkpfkdfaaW.PrintLast Go.Proofs.YtcamdgdkpfkdfaaW.PrintMore
attribute [local go_sem] max2_int min2_int max_two min_two max_three min_three max_four min_four   -- for this text's walks alone
set_option linter.unusedVariables false
set_option linter.unusedSimpArgs false

/-! ### laws_FnSquares: function 6 -/
def laws_FnSquares.l0 : Nat → List Int → List Int → Int → Int → Int → Int → Option (Bool)
 | 0, _, _, _, _, _, _ => none
 | k + 1, x4, x5, x6, x227000, x227001, x227002 => if x6 < (x4.length : Int) then (if 0 ≤ (wrap64 (x6 - 1)) then (if (wrap64 (x6 - 1)) < (x4.length : Int) then (if (rd x4 (wrap64 (x6 - 1))) < x227002 then (if 0 ≤ x6 then (if (rd x4 x6) < (rd x4 (wrap64 (x6 - 1))) then (if x6 < (x5.length : Int) then (if (rd x5 x6) > (wrap64 ((rd x4 x6) * (rd x4 x6))) then (some false) else (if (wrap64 (x6 - 1)) < (x5.length : Int) then (if (rd x5 x6) > (wrap64 ((rd x5 (wrap64 (x6 - 1))) + x227000)) then (some false) else (if 0 ≤ (wrap64 (x6 + 1)) then (if (wrap64 (x6 + 1)) < (x5.length : Int) then (if (rd x5 x6) > (wrap64 ((rd x5 (wrap64 (x6 + 1))) + x227001)) then (some false) else (if (wrap64 ((rd x5 x6) + 1)) ≤ (wrap64 ((rd x4 x6) * (rd x4 x6))) then (if (wrap64 ((rd x5 x6) + 1)) ≤ (wrap64 ((rd x5 (wrap64 (x6 - 1))) + x227000)) then (if (wrap64 ((rd x5 x6) + 1)) ≤ (wrap64 ((rd x5 (wrap64 (x6 + 1))) + x227001)) then (some false) else (laws_FnSquares.l0 k x4 x5 (wrap64 (x6 + 1)) x227000 x227001 x227002)) else (laws_FnSquares.l0 k x4 x5 (wrap64 (x6 + 1)) x227000 x227001 x227002)) else (laws_FnSquares.l0 k x4 x5 (wrap64 (x6 + 1)) x227000 x227001 x227002))) else (none)) else (none))) else (none))) else (none)) else (if x6 < (x5.length : Int) then (if (rd x5 x6) > (wrap64 ((rd x4 (wrap64 (x6 - 1))) * (rd x4 (wrap64 (x6 - 1))))) then (some false) else (if (wrap64 (x6 - 1)) < (x5.length : Int) then (if (rd x5 x6) > (wrap64 ((rd x5 (wrap64 (x6 - 1))) + x227000)) then (some false) else (if 0 ≤ (wrap64 (x6 + 1)) then (if (wrap64 (x6 + 1)) < (x5.length : Int) then (if (rd x5 x6) > (wrap64 ((rd x5 (wrap64 (x6 + 1))) + x227001)) then (some false) else (if (wrap64 ((rd x5 x6) + 1)) ≤ (wrap64 ((rd x4 (wrap64 (x6 - 1))) * (rd x4 (wrap64 (x6 - 1))))) then (if (wrap64 ((rd x5 x6) + 1)) ≤ (wrap64 ((rd x5 (wrap64 (x6 - 1))) + x227000)) then (if (wrap64 ((rd x5 x6) + 1)) ≤ (wrap64 ((rd x5 (wrap64 (x6 + 1))) + x227001)) then (some false) else (laws_FnSquares.l0 k x4 x5 (wrap64 (x6 + 1)) x227000 x227001 x227002)) else (laws_FnSquares.l0 k x4 x5 (wrap64 (x6 + 1)) x227000 x227001 x227002)) else (laws_FnSquares.l0 k x4 x5 (wrap64 (x6 + 1)) x227000 x227001 x227002))) else (none)) else (none))) else (none))) else (none))) else (none)) else (if 0 ≤ x6 then (if (rd x4 x6) < x227002 then (if x6 < (x5.length : Int) then (if (rd x5 x6) > (wrap64 ((rd x4 x6) * (rd x4 x6))) then (some false) else (if (wrap64 (x6 - 1)) < (x5.length : Int) then (if (rd x5 x6) > (wrap64 ((rd x5 (wrap64 (x6 - 1))) + x227000)) then (some false) else (if 0 ≤ (wrap64 (x6 + 1)) then (if (wrap64 (x6 + 1)) < (x5.length : Int) then (if (rd x5 x6) > (wrap64 ((rd x5 (wrap64 (x6 + 1))) + x227001)) then (some false) else (if (wrap64 ((rd x5 x6) + 1)) ≤ (wrap64 ((rd x4 x6) * (rd x4 x6))) then (if (wrap64 ((rd x5 x6) + 1)) ≤ (wrap64 ((rd x5 (wrap64 (x6 - 1))) + x227000)) then (if (wrap64 ((rd x5 x6) + 1)) ≤ (wrap64 ((rd x5 (wrap64 (x6 + 1))) + x227001)) then (some false) else (laws_FnSquares.l0 k x4 x5 (wrap64 (x6 + 1)) x227000 x227001 x227002)) else (laws_FnSquares.l0 k x4 x5 (wrap64 (x6 + 1)) x227000 x227001 x227002)) else (laws_FnSquares.l0 k x4 x5 (wrap64 (x6 + 1)) x227000 x227001 x227002))) else (none)) else (none))) else (none))) else (none)) else (if x6 < (x5.length : Int) then (if (rd x5 x6) > (wrap64 (x227002 * x227002)) then (some false) else (if (wrap64 (x6 - 1)) < (x5.length : Int) then (if (rd x5 x6) > (wrap64 ((rd x5 (wrap64 (x6 - 1))) + x227000)) then (some false) else (if 0 ≤ (wrap64 (x6 + 1)) then (if (wrap64 (x6 + 1)) < (x5.length : Int) then (if (rd x5 x6) > (wrap64 ((rd x5 (wrap64 (x6 + 1))) + x227001)) then (some false) else (if (wrap64 ((rd x5 x6) + 1)) ≤ (wrap64 (x227002 * x227002)) then (if (wrap64 ((rd x5 x6) + 1)) ≤ (wrap64 ((rd x5 (wrap64 (x6 - 1))) + x227000)) then (if (wrap64 ((rd x5 x6) + 1)) ≤ (wrap64 ((rd x5 (wrap64 (x6 + 1))) + x227001)) then (some false) else (laws_FnSquares.l0 k x4 x5 (wrap64 (x6 + 1)) x227000 x227001 x227002)) else (laws_FnSquares.l0 k x4 x5 (wrap64 (x6 + 1)) x227000 x227001 x227002)) else (laws_FnSquares.l0 k x4 x5 (wrap64 (x6 + 1)) x227000 x227001 x227002))) else (none)) else (none))) else (none))) else (none))) else (none))) else (none)) else (none)) else (some true)
def laws_FnSquares.f (k : Nat) (l0 : List Int) : Option (Bool) := (laws_big.f l0).bind fun t219 => (if t219 = true then (some true) else ((spec_DrawRightCourse.f k l0).bind fun bt220 => ((impl_Squares.f k bt220.1 bt220.2.1 bt220.2.2.1 bt220.2.2.2).bind fun t227 => (if (t227.length : Int) = (wrap64 ((bt220.2.2.2.length : Int) + 1)) then (if 0 < (t227.length : Int) then (if (rd t227 0) = 0 then (if 0 ≤ (bt220.2.2.2.length : Int) then (if (bt220.2.2.2.length : Int) < (t227.length : Int) then (if (rd t227 (bt220.2.2.2.length : Int)) = 0 then ((spec_Squares.f k bt220.1 bt220.2.1 bt220.2.2.1 bt220.2.2.2).bind fun t232 => ((laws_sameInts.f k t227 t232).bind fun t235 => (if t235 = true then (laws_FnSquares.l0 k bt220.2.2.2 t227 1 bt220.1 bt220.2.1 bt220.2.2.1) else (some false)))) else (some false)) else (none)) else (none)) else (some false)) else (none)) else (some false)))))
theorem laws_FnSquares.mono_l : ∀ k, (∀ y0 y1 y2 y3 y4 y5, LeO (laws_FnSquares.l0 k y0 y1 y2 y3 y4 y5) (laws_FnSquares.l0 (k + 1) y0 y1 y2 y3 y4 y5))
 | 0 => fun _ _ _ _ _ _ r h => by simp [laws_FnSquares.l0] at h
 | k + 1 => by
  have ih0 := laws_FnSquares.mono_l k
  ·intro y0 y1 y2 y3 y4 y5
   unfold laws_FnSquares.l0
   repeat' first
   | (with_reducible exact ih0 _ _ _ _ _ _)
   | (with_reducible exact impl_Squares.mono _ _ _ _ _)
   | (with_reducible exact laws_sameInts.mono _ _ _)
   | (with_reducible exact spec_DrawRightCourse.mono _ _)
   | (with_reducible exact spec_Squares.mono _ _ _ _ _)
   | (with_reducible exact LeO.refl _)
   | (with_reducible exact LeO.none _)
   | (with_reducible refine LeO.ite ?_ ?_)
   | (with_reducible refine LeO.bind ?_ (fun _ => ?_))
   | exact ih0 _ _ _ _ _ _
   | exact impl_Squares.mono _ _ _ _ _
   | exact laws_sameInts.mono _ _ _
   | exact spec_DrawRightCourse.mono _ _
   | exact spec_Squares.mono _ _ _ _ _
   | exact LeO.none _
   | refine LeO.ite ?_ ?_
   | refine LeO.bind ?_ (fun _ => ?_)
theorem laws_FnSquares.mono : ∀ a0 k, LeO (laws_FnSquares.f k a0) (laws_FnSquares.f (k + 1) a0) := by
 intro a0 k
 have ih0 := laws_FnSquares.mono_l k
 unfold laws_FnSquares.f
 repeat' first
   | (with_reducible exact ih0 _ _ _ _ _ _)
   | (with_reducible exact impl_Squares.mono _ _ _ _ _)
   | (with_reducible exact laws_sameInts.mono _ _ _)
   | (with_reducible exact spec_DrawRightCourse.mono _ _)
   | (with_reducible exact spec_Squares.mono _ _ _ _ _)
   | (with_reducible exact LeO.refl _)
   | (with_reducible exact LeO.none _)
   | (with_reducible refine LeO.ite ?_ ?_)
   | (with_reducible refine LeO.bind ?_ (fun _ => ?_))
   | exact ih0 _ _ _ _ _ _
   | exact impl_Squares.mono _ _ _ _ _
   | exact laws_sameInts.mono _ _ _
   | exact spec_DrawRightCourse.mono _ _
   | exact spec_Squares.mono _ _ _ _ _
   | exact LeO.none _
   | refine LeO.ite ?_ ?_
   | refine LeO.bind ?_ (fun _ => ?_)
set_option maxHeartbeats 8000000 in
set_option maxRecDepth 100000 in
theorem laws_FnSquares.calls (k : Nat) (A0 : Option Addr) (c0 : Nat) (l0 : List Int) (w : World) (hr0 : Kd.C (Kd.int .u8) w A0 l0.length l0) (hc0 : l0.length ≤ c0) (h : laws_FnSquares.f k l0 = some true) :
  Calls Try.prog 6 #[.slice A0 l0.length c0] w fun e w' => e = .returned (.bool true) ∧ Below w.heap.size w w' := by
 have hu26 := Try.underlying26
 have HR0 := Aside0.mk hr0
 have HC0 := Aside0.mk hc0
 clear hr0 hc0
 have HB := Aside0.mk (Below.refl w.heap.size w)
 have H : ((laws_big.f l0).bind fun t219 => (if t219 = true then (some true) else ((spec_DrawRightCourse.f k l0).bind fun bt220 => ((impl_Squares.f k bt220.1 bt220.2.1 bt220.2.2.1 bt220.2.2.2).bind fun t227 => (if (t227.length : Int) = (wrap64 ((bt220.2.2.2.length : Int) + 1)) then (if 0 < (t227.length : Int) then (if (rd t227 0) = 0 then (if 0 ≤ (bt220.2.2.2.length : Int) then (if (bt220.2.2.2.length : Int) < (t227.length : Int) then (if (rd t227 (bt220.2.2.2.length : Int)) = 0 then ((spec_Squares.f k bt220.1 bt220.2.1 bt220.2.2.1 bt220.2.2.2).bind fun t232 => ((laws_sameInts.f k t227 t232).bind fun t235 => (if t235 = true then (laws_FnSquares.l0 k bt220.2.2.2 t227 1 bt220.1 bt220.2.1 bt220.2.2.1) else (some false)))) else (some false)) else (none)) else (none)) else (some false)) else (none)) else (some false)))))) = some true := h
 clear h
 replace H := Option.bind_eq_some_iff.mp H
 obtain ⟨t219, A20, H⟩ := H
 replace H : (if t219 = true then (some true) else ((spec_DrawRightCourse.f k l0).bind fun bt220 => ((impl_Squares.f k bt220.1 bt220.2.1 bt220.2.2.1 bt220.2.2.2).bind fun t227 => (if (t227.length : Int) = (wrap64 ((bt220.2.2.2.length : Int) + 1)) then (if 0 < (t227.length : Int) then (if (rd t227 0) = 0 then (if 0 ≤ (bt220.2.2.2.length : Int) then (if (bt220.2.2.2.length : Int) < (t227.length : Int) then (if (rd t227 (bt220.2.2.2.length : Int)) = 0 then ((spec_Squares.f k bt220.1 bt220.2.1 bt220.2.2.1 bt220.2.2.2).bind fun t232 => ((laws_sameInts.f k t227 t232).bind fun t235 => (if t235 = true then (laws_FnSquares.l0 k bt220.2.2.2 t227 1 bt220.1 bt220.2.1 bt220.2.2.1) else (some false)))) else (some false)) else (none)) else (none)) else (some false)) else (none)) else (some false))))) = some true := H
 have A2 := Aside0.mk A20
 clear A20
 by_cases c3 : t219 = true
 ·subst c3
  have H1 : (some true) = some true := by (first | (rw [if_pos rfl] at H; exact H) | rfl)
  clear H
  have H := H1
  clear H1
  clear H
  go_enter Try.func6, Try.ntmps6
  go_wp2_with (first | (go_at_call 18; (with_reducible refine (laws_big.calls _ _ l0 true _ ?side1 ?side2 A2.out).mono ?_); (case side1 => repeat (first | exact HR0.out | (with_reducible refine Kd.C_alloc ?_ _) | (with_reducible refine Kd.C_drewN ?_ _) | (with_reducible refine Kd.C_drew ?_))); (case side2 => exact HC0.out); rintro e w' ⟨rfl, ⟨nd, rfl⟩⟩; (try first | exact ⟨rfl, _, World.drewN_drewN _ _ _⟩ | exact ⟨rfl, _, Eq.trans (World.drewN_drewN _ _ _) (congrArg (World.drewN _) (Nat.add_assoc _ _ _))⟩)))
  repeat (go_quiet (first | (go_at_call 18; (with_reducible refine (laws_big.calls _ _ l0 true _ ?side1 ?side2 A2.out).mono ?_); (case side1 => repeat (first | exact HR0.out | (with_reducible refine Kd.C_alloc ?_ _) | (with_reducible refine Kd.C_drewN ?_ _) | (with_reducible refine Kd.C_drew ?_))); (case side2 => exact HC0.out); rintro e w' ⟨rfl, ⟨nd, rfl⟩⟩; (try first | exact ⟨rfl, _, World.drewN_drewN _ _ _⟩ | exact ⟨rfl, _, Eq.trans (World.drewN_drewN _ _ _) (congrArg (World.drewN _) (Nat.add_assoc _ _ _))⟩))); try go_wp2_with (first | (go_at_call 18; (with_reducible refine (laws_big.calls _ _ l0 true _ ?side1 ?side2 A2.out).mono ?_); (case side1 => repeat (first | exact HR0.out | (with_reducible refine Kd.C_alloc ?_ _) | (with_reducible refine Kd.C_drewN ?_ _) | (with_reducible refine Kd.C_drew ?_))); (case side2 => exact HC0.out); rintro e w' ⟨rfl, ⟨nd, rfl⟩⟩; (try first | exact ⟨rfl, _, World.drewN_drewN _ _ _⟩ | exact ⟨rfl, _, Eq.trans (World.drewN_drewN _ _ _) (congrArg (World.drewN _) (Nat.add_assoc _ _ _))⟩))))
  go_ret
  exact ⟨by first | rfl | (simp [errW_none, errW_some] <;> rfl) | (simp [*, errW_none, errW_some] <;> rfl), by repeat (first | (with_reducible first | exact HB.out | apply below_alloc | apply pw_below_drewN | apply below_drew1) | exact HB.out)⟩
 ·replace c3 := Bool.eq_false_iff.mpr c3
  subst c3
  have H1 : ((spec_DrawRightCourse.f k l0).bind fun bt220 => ((impl_Squares.f k bt220.1 bt220.2.1 bt220.2.2.1 bt220.2.2.2).bind fun t227 => (if (t227.length : Int) = (wrap64 ((bt220.2.2.2.length : Int) + 1)) then (if 0 < (t227.length : Int) then (if (rd t227 0) = 0 then (if 0 ≤ (bt220.2.2.2.length : Int) then (if (bt220.2.2.2.length : Int) < (t227.length : Int) then (if (rd t227 (bt220.2.2.2.length : Int)) = 0 then ((spec_Squares.f k bt220.1 bt220.2.1 bt220.2.2.1 bt220.2.2.2).bind fun t232 => ((laws_sameInts.f k t227 t232).bind fun t235 => (if t235 = true then (laws_FnSquares.l0 k bt220.2.2.2 t227 1 bt220.1 bt220.2.1 bt220.2.2.1) else (some false)))) else (some false)) else (none)) else (none)) else (some false)) else (none)) else (some false)))) = some true := by (first | (rw [if_neg (show ¬ (false = true) by decide)] at H; exact H) | rfl)
  clear H
  have H := H1
  clear H1
  replace H := Option.bind_eq_some_iff.mp H
  obtain ⟨⟨t220, t221, t222, t223⟩, A40, H⟩ := H
  replace H : ((impl_Squares.f k t220 t221 t222 t223).bind fun t227 => (if (t227.length : Int) = (wrap64 ((t223.length : Int) + 1)) then (if 0 < (t227.length : Int) then (if (rd t227 0) = 0 then (if 0 ≤ (t223.length : Int) then (if (t223.length : Int) < (t227.length : Int) then (if (rd t227 (t223.length : Int)) = 0 then ((spec_Squares.f k t220 t221 t222 t223).bind fun t232 => ((laws_sameInts.f k t227 t232).bind fun t235 => (if t235 = true then (laws_FnSquares.l0 k t223 t227 1 t220 t221 t222) else (some false)))) else (some false)) else (none)) else (none)) else (some false)) else (none)) else (some false))) = some true := H
  have A4 := Aside0.mk A40
  clear A40
  replace H := Option.bind_eq_some_iff.mp H
  obtain ⟨t227, A50, H⟩ := H
  replace H : (if (t227.length : Int) = (wrap64 ((t223.length : Int) + 1)) then (if 0 < (t227.length : Int) then (if (rd t227 0) = 0 then (if 0 ≤ (t223.length : Int) then (if (t223.length : Int) < (t227.length : Int) then (if (rd t227 (t223.length : Int)) = 0 then ((spec_Squares.f k t220 t221 t222 t223).bind fun t232 => ((laws_sameInts.f k t227 t232).bind fun t235 => (if t235 = true then (laws_FnSquares.l0 k t223 t227 1 t220 t221 t222) else (some false)))) else (some false)) else (none)) else (none)) else (some false)) else (none)) else (some false)) = some true := H
  have A5 := Aside0.mk A50
  clear A50
  by_cases c6 : (t227.length : Int) = (wrap64 ((t223.length : Int) + 1))
  ·rw [if_pos c6] at H
   have c6b0 : ((t227.length : Int) == (wrap64 ((t223.length : Int) + 1))) = true := beq_iff_eq.mpr c6
   have c6b1 : ((t227.length : Int) != (wrap64 ((t223.length : Int) + 1))) = false := bne_eq_false_iff_eq.mpr c6
   clear c6
   by_cases c7 : 0 < (t227.length : Int)
   ·rw [if_pos c7] at H
    have c7b0 : decide (0 < (t227.length : Int)) = true := decide_eq_true c7
    have c7b1 : decide (0 < t227.length) = true := decide_eq_true (by omega)
    clear c7
    by_cases c8 : (rd t227 0) = 0
    ·rw [if_pos c8] at H
     have c8b0 : ((rd t227 0) == 0) = true := beq_iff_eq.mpr c8
     have c8b1 : ((rd t227 0) != 0) = false := bne_eq_false_iff_eq.mpr c8
     clear c8
     by_cases c9 : 0 ≤ (t223.length : Int)
     ·rw [if_pos c9] at H
      have c9b0 : decide (0 ≤ (t223.length : Int)) = true := decide_eq_true c9
      have c9b1 : decide (0 ≤ t223.length) = true := decide_eq_true (by omega)
      clear c9
      by_cases c10 : (t223.length : Int) < (t227.length : Int)
      ·rw [if_pos c10] at H
       have c10b0 : decide ((t223.length : Int) < (t227.length : Int)) = true := decide_eq_true c10
       have c10b1 : decide (t223.length < t227.length) = true := decide_eq_true (Int.ofNat_lt.mp c10)
       clear c10
       by_cases c11 : (rd t227 (t223.length : Int)) = 0
       ·rw [if_pos c11] at H
        have c11b0 : ((rd t227 (t223.length : Int)) == 0) = true := beq_iff_eq.mpr c11
        have c11b1 : ((rd t227 (t223.length : Int)) != 0) = false := bne_eq_false_iff_eq.mpr c11
        clear c11
        replace H := Option.bind_eq_some_iff.mp H
        obtain ⟨t232, A120, H⟩ := H
        replace H : ((laws_sameInts.f k t227 t232).bind fun t235 => (if t235 = true then (laws_FnSquares.l0 k t223 t227 1 t220 t221 t222) else (some false))) = some true := H
        have A12 := Aside0.mk A120
        clear A120
        replace H := Option.bind_eq_some_iff.mp H
        obtain ⟨t235, A130, H⟩ := H
        replace H : (if t235 = true then (laws_FnSquares.l0 k t223 t227 1 t220 t221 t222) else (some false)) = some true := H
        have A13 := Aside0.mk A130
        clear A130
        by_cases c14 : t235 = true
        ·subst c14
         have H1 : (laws_FnSquares.l0 k t223 t227 1 t220 t221 t222) = some true := by (first | (rw [if_pos rfl] at H; exact H) | rfl)
         clear H
         have H := H1
         clear H1
         have H' := Aside0.mk H
         clear H
         go_enter Try.func6, Try.ntmps6
         go_wp2_with (first | (go_at_call 18; (with_reducible refine (laws_big.calls _ _ l0 false _ ?side1 ?side2 A2.out).mono ?_); (case side1 => repeat (first | exact HR0.out | (with_reducible refine Kd.C_alloc ?_ _) | (with_reducible refine Kd.C_drewN ?_ _) | (with_reducible refine Kd.C_drew ?_))); (case side2 => exact HC0.out); rintro e w' ⟨rfl, ⟨nd, rfl⟩⟩; (try first | exact ⟨rfl, _, World.drewN_drewN _ _ _⟩ | exact ⟨rfl, _, Eq.trans (World.drewN_drewN _ _ _) (congrArg (World.drewN _) (Nat.add_assoc _ _ _))⟩)) | (go_at_call 19; (with_reducible refine (spec_DrawRightCourse.calls k _ _ l0 t220 t221 t222 t223 _ ?side1 ?side2 A4.out).mono ?_); (case side1 => repeat (first | exact HR0.out | (with_reducible refine Kd.C_alloc ?_ _) | (with_reducible refine Kd.C_drewN ?_ _) | (with_reducible refine Kd.C_drew ?_))); (case side2 => exact HC0.out); rintro e w15 ⟨v224, rfl, ho0, hb⟩; have n0_ := Aside0.mk (Kd.R_lower ho0 (below_size (by repeat (first | (with_reducible first | exact HB.out | apply below_alloc | apply pw_below_drewN | apply below_drew1) | exact HB.out)))); have n1_ := Aside0.mk (below_step (by repeat (first | (with_reducible first | exact HB.out | apply below_alloc | apply pw_below_drewN | apply below_drew1) | exact HB.out)) hb); clear HB; have HO225 := n0_; have HB := n1_; clear n0_ n1_; (try clear hb); (try clear hb2); (try clear hk); (try clear hi); (try clear ho0)) | ((with_reducible refine gate_dst (N := 3) rfl ?_); (try (refine gate_guard (by rfl) ?_; dsimp only)); refine box_event ?hg (N := 3) ?hd (cs := #[.int .i64 0, .int .i64 0, .int .i64 0]) (t := 26) ?hr ?_; (case hd => rfl); (case hg => rfl); (case hr => first | (go_simp; done) | (go_simp; rfl)); intro gb226 hg w16 hbox hb; have n0_ := Aside0.mk (Kd.R_below (by (with_reducible repeat (first | apply Kd.R_alloc | apply Kd.R_drewN | apply Kd.R_drew)); exact HO225.out) hb); have n1_ := Aside0.mk (below_step (by repeat (first | (with_reducible first | exact HB.out | apply below_alloc | apply pw_below_drewN | apply below_drew1) | exact HB.out)) hb); have n2_ := Aside0.mk (hbox); have n3_ := Aside0.mk ((by rw [hg]; exact (below_size (by repeat (first | (with_reducible first | exact HB.out | apply below_alloc | apply pw_below_drewN | apply below_drew1) | exact HB.out))) : w.heap.size ≤ gb226)); have n4_ := Aside0.mk ((by rw [hg]; exact (below_size (by repeat (first | (with_reducible first | exact HB.out | apply below_alloc | apply pw_below_drewN | apply below_drew1) | exact HB.out))) : w.heap.size ≤ gb226)); clear HO225; clear HB; have HO225 := n0_; have HB := n1_; have BK226 := n2_; have GW226 := n3_; have GE226 := n4_; clear n0_ n1_ n2_ n3_ n4_; clear hb hbox hg; have hcz17_0 : w16.cell? ⟨gb226, 0, none⟩ = some (.int .i64 0) := (blk_cell BK226.out 0).trans rfl; have hcz17_1 : w16.cell? ⟨gb226, 1, none⟩ = some (.int .i64 0) := (blk_cell BK226.out 1).trans rfl; have hcz17_2 : w16.cell? ⟨gb226, 2, none⟩ = some (.int .i64 0) := (blk_cell BK226.out 2).trans rfl; have hfz17_0 := blk_frozen BK226.out 0; have hfz17_1 := blk_frozen BK226.out 1; have hfz17_2 := blk_frozen BK226.out 2; obtain ⟨Ao18, co18, eo18⟩ := Kd.R_slice HO225.out; subst eo18) | (go_at_call 14; (with_reducible refine (impl_Squares.calls k t220 t221 t222 _ _ t223 t227 _ ?side1 ?side2 A5.out).mono ?_); (case side1 => refine (Kd.R_reads' (e := 3) (base := w.heap.size) (ok := fun k_ => True) (n := t223.length) (c := co18) ?_).2.2; exact (by (with_reducible repeat (first | apply Kd.R_alloc | apply Kd.R_drewN | apply Kd.R_drew)); exact (Kd.R_mono (Kd.R_far (p := ⟨gb226, 2, none⟩) (Kd.R_far (p := ⟨gb226, 1, none⟩) (Kd.R_far (p := ⟨gb226, 0, none⟩) (Kd.R_types HO225.out BK226.out (by decide)) (fun _ hk => hk.2) (.int .i64 t220)) (fun _ hk => hk.2) (.int .i64 t221)) (fun _ hk => hk.2) (.int .i64 t222)) (fun _ h_ => h_.1)))); (case side2 => exact (Kd.R_reads' HO225.out).2.1); rintro e w19 ⟨v228, rfl, ho0, hb⟩; have n0_ := Aside0.mk (Kd.R_elder' (by (with_reducible repeat (first | apply Kd.R_alloc | apply Kd.R_drewN | apply Kd.R_drew)); exact (Kd.R_mono (Kd.R_far (p := ⟨gb226, 2, none⟩) (Kd.R_far (p := ⟨gb226, 1, none⟩) (Kd.R_far (p := ⟨gb226, 0, none⟩) (Kd.R_types HO225.out BK226.out (by decide)) (fun _ hk => hk.2) (.int .i64 t220)) (fun _ hk => hk.2) (.int .i64 t221)) (fun _ hk => hk.2) (.int .i64 t222)) (fun _ h_ => h_.1))) (Kd.R_base ho0) hb); have n1_ := Aside0.mk (Kd.R_lower (Kd.R_new' ho0 (Kd.R_lt (by (with_reducible repeat (first | apply Kd.R_alloc | apply Kd.R_drewN | apply Kd.R_drew)); exact (Kd.R_mono (Kd.R_far (p := ⟨gb226, 2, none⟩) (Kd.R_far (p := ⟨gb226, 1, none⟩) (Kd.R_far (p := ⟨gb226, 0, none⟩) (Kd.R_types HO225.out BK226.out (by decide)) (fun _ hk => hk.2) (.int .i64 t220)) (fun _ hk => hk.2) (.int .i64 t221)) (fun _ hk => hk.2) (.int .i64 t222)) (fun _ h_ => h_.1))))) (below_size (by repeat (first | (with_reducible first | exact HB.out | apply below_alloc | apply pw_below_drewN | apply below_drew1 | refine below_set ?_ GE226.out) | exact HB.out)))); have n2_ := Aside0.mk (blk_below (g := gb226) (o := .cells #[.int .i64 t220, .int .i64 t221, .int .i64 t222] 26 (0, 0)) (by (with_reducible repeat (first | refine blk_drewN ?_ _ | refine blk_drew ?_ | refine blk_alloc ?_ _)); refine blk_put (cs := #[.int .i64 t220, .int .i64 t221, .int .i64 0]) ?_ 2 _ rfl; (with_reducible repeat (first | refine blk_drewN ?_ _ | refine blk_drew ?_ | refine blk_alloc ?_ _)); refine blk_put (cs := #[.int .i64 t220, .int .i64 0, .int .i64 0]) ?_ 1 _ rfl; (with_reducible repeat (first | refine blk_drewN ?_ _ | refine blk_drew ?_ | refine blk_alloc ?_ _)); refine blk_put (cs := #[.int .i64 0, .int .i64 0, .int .i64 0]) ?_ 0 _ rfl; (with_reducible repeat (first | refine blk_drewN ?_ _ | refine blk_drew ?_ | refine blk_alloc ?_ _)); exact BK226.out) hb); have n3_ := Aside0.mk (below_step (by repeat (first | (with_reducible first | exact HB.out | apply below_alloc | apply pw_below_drewN | apply below_drew1 | refine below_set ?_ GE226.out) | exact HB.out)) hb); clear HO225; clear BK226; clear HB; have HO225 := n0_; have HO229 := n1_; have BK226 := n2_; have HB := n3_; clear n0_ n1_ n2_ n3_; (try clear hb); (try clear hb2); (try clear hk); (try clear hi); (try clear ho0); obtain ⟨Ao20, co20, eo20⟩ := Kd.R_slice HO229.out; subst eo20; have p230 : 0 ≤ (0 : Int) := (by omega); have q230 : 0 < (t227.length : Int) := of_decide_eq_true (by first | (with_reducible assumption) | assumption); obtain ⟨ad230, e230, hx230_0⟩ := Kd.at_int (Kd.R_reads' HO229.out).2.2 0 p230 q230; cases e230; have qi230 : (0 < t227.length) = True := eq_true (by omega); (try rw [show ((0 : Int)).toNat = 0 from rfl] at hx230_0); (try rw [Addr.add_zero'] at hx230_0); replace p230 := eq_true p230; replace q230 := eq_true q230; have p231 : 0 ≤ ((t223.length : Int) : Int) := of_decide_eq_true (by first | (with_reducible assumption) | assumption); have q231 : (t223.length : Int) < (t227.length : Int) := of_decide_eq_true (by first | (with_reducible assumption) | assumption); obtain ⟨ad231, e231, hx231_0⟩ := Kd.at_int (Kd.R_reads' HO229.out).2.2 (t223.length : Int) p231 q231; obtain rfl : ad230 = ad231 := (by injection e231); (try simp only [Go.IntWalk.toNatUp] at hx231_0); replace p231 := eq_true p231; replace q231 := eq_true q231; have hcz21_0 : w19.cell? ⟨gb226, 0, none⟩ = some (.int .i64 t220) := (blk_cell BK226.out 0).trans rfl; have hcz21_1 : w19.cell? ⟨gb226, 1, none⟩ = some (.int .i64 t221) := (blk_cell BK226.out 1).trans rfl; have hcz21_2 : w19.cell? ⟨gb226, 2, none⟩ = some (.int .i64 t222) := (blk_cell BK226.out 2).trans rfl; have hfz21_0 := blk_frozen BK226.out 0; have hfz21_1 := blk_frozen BK226.out 1; have hfz21_2 := blk_frozen BK226.out 2) | (go_at_call 11; (with_reducible refine (spec_Squares.calls k t220 t221 t222 _ _ t223 t232 _ ?side1 ?side2 A12.out).mono ?_); (case side1 => repeat (first | exact (Kd.R_reads' HO225.out).2.2 | (with_reducible refine Kd.C_alloc ?_ _) | (with_reducible refine Kd.C_drewN ?_ _) | (with_reducible refine Kd.C_drew ?_))); (case side2 => exact (Kd.R_reads' HO225.out).2.1); rintro e w22 ⟨v233, rfl, ho0, hb⟩; have n0_ := Aside0.mk (Kd.R_elder' (by (with_reducible repeat (first | apply Kd.R_alloc | apply Kd.R_drewN | apply Kd.R_drew)); exact HO225.out) (Kd.R_base ho0) hb); have n1_ := Aside0.mk (Kd.R_elder' (by (with_reducible repeat (first | apply Kd.R_alloc | apply Kd.R_drewN | apply Kd.R_drew)); exact HO229.out) (Kd.R_base ho0) hb); have n2_ := Aside0.mk (Kd.R_lower (Kd.R_new' (Kd.R_new' ho0 (Kd.R_lt (by (with_reducible repeat (first | apply Kd.R_alloc | apply Kd.R_drewN | apply Kd.R_drew)); exact HO225.out))) (Kd.R_lt (by (with_reducible repeat (first | apply Kd.R_alloc | apply Kd.R_drewN | apply Kd.R_drew)); exact HO229.out))) (below_size (by repeat (first | (with_reducible first | exact HB.out | apply below_alloc | apply pw_below_drewN | apply below_drew1 | refine below_set ?_ GE226.out) | exact HB.out)))); have n3_ := Aside0.mk (blk_below (g := gb226) (o := .cells #[.int .i64 t220, .int .i64 t221, .int .i64 t222] 26 (0, 0)) (by (with_reducible repeat (first | refine blk_drewN ?_ _ | refine blk_drew ?_ | refine blk_alloc ?_ _)); exact BK226.out) hb); have n4_ := Aside0.mk (below_step (by repeat (first | (with_reducible first | exact HB.out | apply below_alloc | apply pw_below_drewN | apply below_drew1 | refine below_set ?_ GE226.out) | exact HB.out)) hb); clear HO225; clear HO229; clear BK226; clear HB; have HO225 := n0_; have HO229 := n1_; have HO234 := n2_; have BK226 := n3_; have HB := n4_; clear n0_ n1_ n2_ n3_ n4_; (try clear hb); (try clear hb2); (try clear hk); (try clear hi); (try clear ho0); obtain ⟨Ao23, co23, eo23⟩ := Kd.R_slice HO234.out; subst eo23) | (go_at_call 25; (with_reducible refine (laws_sameInts.calls k _ _ t227 _ _ t232 true _ ?side1 ?side2 ?side3 ?side4 A13.out).mono ?_); (case side1 => repeat (first | exact (Kd.R_reads' HO229.out).2.2 | (with_reducible refine Kd.C_alloc ?_ _) | (with_reducible refine Kd.C_drewN ?_ _) | (with_reducible refine Kd.C_drew ?_))); (case side2 => exact (Kd.R_reads' HO229.out).2.1); (case side3 => repeat (first | exact (Kd.R_reads' HO234.out).2.2 | (with_reducible refine Kd.C_alloc ?_ _) | (with_reducible refine Kd.C_drewN ?_ _) | (with_reducible refine Kd.C_drew ?_))); (case side4 => exact (Kd.R_reads' HO234.out).2.1); rintro e w' ⟨rfl, ⟨nd, rfl⟩⟩; (try first | exact ⟨rfl, _, World.drewN_drewN _ _ _⟩ | exact ⟨rfl, _, Eq.trans (World.drewN_drewN _ _ _) (congrArg (World.drewN _) (Nat.add_assoc _ _ _))⟩)))
         repeat (go_quiet (first | (go_at_call 18; (with_reducible refine (laws_big.calls _ _ l0 false _ ?side1 ?side2 A2.out).mono ?_); (case side1 => repeat (first | exact HR0.out | (with_reducible refine Kd.C_alloc ?_ _) | (with_reducible refine Kd.C_drewN ?_ _) | (with_reducible refine Kd.C_drew ?_))); (case side2 => exact HC0.out); rintro e w' ⟨rfl, ⟨nd, rfl⟩⟩; (try first | exact ⟨rfl, _, World.drewN_drewN _ _ _⟩ | exact ⟨rfl, _, Eq.trans (World.drewN_drewN _ _ _) (congrArg (World.drewN _) (Nat.add_assoc _ _ _))⟩)) | (go_at_call 19; (with_reducible refine (spec_DrawRightCourse.calls k _ _ l0 t220 t221 t222 t223 _ ?side1 ?side2 A4.out).mono ?_); (case side1 => repeat (first | exact HR0.out | (with_reducible refine Kd.C_alloc ?_ _) | (with_reducible refine Kd.C_drewN ?_ _) | (with_reducible refine Kd.C_drew ?_))); (case side2 => exact HC0.out); rintro e w15 ⟨v224, rfl, ho0, hb⟩; have n0_ := Aside0.mk (Kd.R_lower ho0 (below_size (by repeat (first | (with_reducible first | exact HB.out | apply below_alloc | apply pw_below_drewN | apply below_drew1) | exact HB.out)))); have n1_ := Aside0.mk (below_step (by repeat (first | (with_reducible first | exact HB.out | apply below_alloc | apply pw_below_drewN | apply below_drew1) | exact HB.out)) hb); clear HB; have HO225 := n0_; have HB := n1_; clear n0_ n1_; (try clear hb); (try clear hb2); (try clear hk); (try clear hi); (try clear ho0)) | ((with_reducible refine gate_dst (N := 3) rfl ?_); (try (refine gate_guard (by rfl) ?_; dsimp only)); refine box_event ?hg (N := 3) ?hd (cs := #[.int .i64 0, .int .i64 0, .int .i64 0]) (t := 26) ?hr ?_; (case hd => rfl); (case hg => rfl); (case hr => first | (go_simp; done) | (go_simp; rfl)); intro gb226 hg w16 hbox hb; have n0_ := Aside0.mk (Kd.R_below (by (with_reducible repeat (first | apply Kd.R_alloc | apply Kd.R_drewN | apply Kd.R_drew)); exact HO225.out) hb); have n1_ := Aside0.mk (below_step (by repeat (first | (with_reducible first | exact HB.out | apply below_alloc | apply pw_below_drewN | apply below_drew1) | exact HB.out)) hb); have n2_ := Aside0.mk (hbox); have n3_ := Aside0.mk ((by rw [hg]; exact (below_size (by repeat (first | (with_reducible first | exact HB.out | apply below_alloc | apply pw_below_drewN | apply below_drew1) | exact HB.out))) : w.heap.size ≤ gb226)); have n4_ := Aside0.mk ((by rw [hg]; exact (below_size (by repeat (first | (with_reducible first | exact HB.out | apply below_alloc | apply pw_below_drewN | apply below_drew1) | exact HB.out))) : w.heap.size ≤ gb226)); clear HO225; clear HB; have HO225 := n0_; have HB := n1_; have BK226 := n2_; have GW226 := n3_; have GE226 := n4_; clear n0_ n1_ n2_ n3_ n4_; clear hb hbox hg; have hcz17_0 : w16.cell? ⟨gb226, 0, none⟩ = some (.int .i64 0) := (blk_cell BK226.out 0).trans rfl; have hcz17_1 : w16.cell? ⟨gb226, 1, none⟩ = some (.int .i64 0) := (blk_cell BK226.out 1).trans rfl; have hcz17_2 : w16.cell? ⟨gb226, 2, none⟩ = some (.int .i64 0) := (blk_cell BK226.out 2).trans rfl; have hfz17_0 := blk_frozen BK226.out 0; have hfz17_1 := blk_frozen BK226.out 1; have hfz17_2 := blk_frozen BK226.out 2; obtain ⟨Ao18, co18, eo18⟩ := Kd.R_slice HO225.out; subst eo18) | (go_at_call 14; (with_reducible refine (impl_Squares.calls k t220 t221 t222 _ _ t223 t227 _ ?side1 ?side2 A5.out).mono ?_); (case side1 => refine (Kd.R_reads' (e := 3) (base := w.heap.size) (ok := fun k_ => True) (n := t223.length) (c := co18) ?_).2.2; exact (by (with_reducible repeat (first | apply Kd.R_alloc | apply Kd.R_drewN | apply Kd.R_drew)); exact (Kd.R_mono (Kd.R_far (p := ⟨gb226, 2, none⟩) (Kd.R_far (p := ⟨gb226, 1, none⟩) (Kd.R_far (p := ⟨gb226, 0, none⟩) (Kd.R_types HO225.out BK226.out (by decide)) (fun _ hk => hk.2) (.int .i64 t220)) (fun _ hk => hk.2) (.int .i64 t221)) (fun _ hk => hk.2) (.int .i64 t222)) (fun _ h_ => h_.1)))); (case side2 => exact (Kd.R_reads' HO225.out).2.1); rintro e w19 ⟨v228, rfl, ho0, hb⟩; have n0_ := Aside0.mk (Kd.R_elder' (by (with_reducible repeat (first | apply Kd.R_alloc | apply Kd.R_drewN | apply Kd.R_drew)); exact (Kd.R_mono (Kd.R_far (p := ⟨gb226, 2, none⟩) (Kd.R_far (p := ⟨gb226, 1, none⟩) (Kd.R_far (p := ⟨gb226, 0, none⟩) (Kd.R_types HO225.out BK226.out (by decide)) (fun _ hk => hk.2) (.int .i64 t220)) (fun _ hk => hk.2) (.int .i64 t221)) (fun _ hk => hk.2) (.int .i64 t222)) (fun _ h_ => h_.1))) (Kd.R_base ho0) hb); have n1_ := Aside0.mk (Kd.R_lower (Kd.R_new' ho0 (Kd.R_lt (by (with_reducible repeat (first | apply Kd.R_alloc | apply Kd.R_drewN | apply Kd.R_drew)); exact (Kd.R_mono (Kd.R_far (p := ⟨gb226, 2, none⟩) (Kd.R_far (p := ⟨gb226, 1, none⟩) (Kd.R_far (p := ⟨gb226, 0, none⟩) (Kd.R_types HO225.out BK226.out (by decide)) (fun _ hk => hk.2) (.int .i64 t220)) (fun _ hk => hk.2) (.int .i64 t221)) (fun _ hk => hk.2) (.int .i64 t222)) (fun _ h_ => h_.1))))) (below_size (by repeat (first | (with_reducible first | exact HB.out | apply below_alloc | apply pw_below_drewN | apply below_drew1 | refine below_set ?_ GE226.out) | exact HB.out)))); have n2_ := Aside0.mk (blk_below (g := gb226) (o := .cells #[.int .i64 t220, .int .i64 t221, .int .i64 t222] 26 (0, 0)) (by (with_reducible repeat (first | refine blk_drewN ?_ _ | refine blk_drew ?_ | refine blk_alloc ?_ _)); refine blk_put (cs := #[.int .i64 t220, .int .i64 t221, .int .i64 0]) ?_ 2 _ rfl; (with_reducible repeat (first | refine blk_drewN ?_ _ | refine blk_drew ?_ | refine blk_alloc ?_ _)); refine blk_put (cs := #[.int .i64 t220, .int .i64 0, .int .i64 0]) ?_ 1 _ rfl; (with_reducible repeat (first | refine blk_drewN ?_ _ | refine blk_drew ?_ | refine blk_alloc ?_ _)); refine blk_put (cs := #[.int .i64 0, .int .i64 0, .int .i64 0]) ?_ 0 _ rfl; (with_reducible repeat (first | refine blk_drewN ?_ _ | refine blk_drew ?_ | refine blk_alloc ?_ _)); exact BK226.out) hb); have n3_ := Aside0.mk (below_step (by repeat (first | (with_reducible first | exact HB.out | apply below_alloc | apply pw_below_drewN | apply below_drew1 | refine below_set ?_ GE226.out) | exact HB.out)) hb); clear HO225; clear BK226; clear HB; have HO225 := n0_; have HO229 := n1_; have BK226 := n2_; have HB := n3_; clear n0_ n1_ n2_ n3_; (try clear hb); (try clear hb2); (try clear hk); (try clear hi); (try clear ho0); obtain ⟨Ao20, co20, eo20⟩ := Kd.R_slice HO229.out; subst eo20; have p230 : 0 ≤ (0 : Int) := (by omega); have q230 : 0 < (t227.length : Int) := of_decide_eq_true (by first | (with_reducible assumption) | assumption); obtain ⟨ad230, e230, hx230_0⟩ := Kd.at_int (Kd.R_reads' HO229.out).2.2 0 p230 q230; cases e230; have qi230 : (0 < t227.length) = True := eq_true (by omega); (try rw [show ((0 : Int)).toNat = 0 from rfl] at hx230_0); (try rw [Addr.add_zero'] at hx230_0); replace p230 := eq_true p230; replace q230 := eq_true q230; have p231 : 0 ≤ ((t223.length : Int) : Int) := of_decide_eq_true (by first | (with_reducible assumption) | assumption); have q231 : (t223.length : Int) < (t227.length : Int) := of_decide_eq_true (by first | (with_reducible assumption) | assumption); obtain ⟨ad231, e231, hx231_0⟩ := Kd.at_int (Kd.R_reads' HO229.out).2.2 (t223.length : Int) p231 q231; obtain rfl : ad230 = ad231 := (by injection e231); (try simp only [Go.IntWalk.toNatUp] at hx231_0); replace p231 := eq_true p231; replace q231 := eq_true q231; have hcz21_0 : w19.cell? ⟨gb226, 0, none⟩ = some (.int .i64 t220) := (blk_cell BK226.out 0).trans rfl; have hcz21_1 : w19.cell? ⟨gb226, 1, none⟩ = some (.int .i64 t221) := (blk_cell BK226.out 1).trans rfl; have hcz21_2 : w19.cell? ⟨gb226, 2, none⟩ = some (.int .i64 t222) := (blk_cell BK226.out 2).trans rfl; have hfz21_0 := blk_frozen BK226.out 0; have hfz21_1 := blk_frozen BK226.out 1; have hfz21_2 := blk_frozen BK226.out 2) | (go_at_call 11; (with_reducible refine (spec_Squares.calls k t220 t221 t222 _ _ t223 t232 _ ?side1 ?side2 A12.out).mono ?_); (case side1 => repeat (first | exact (Kd.R_reads' HO225.out).2.2 | (with_reducible refine Kd.C_alloc ?_ _) | (with_reducible refine Kd.C_drewN ?_ _) | (with_reducible refine Kd.C_drew ?_))); (case side2 => exact (Kd.R_reads' HO225.out).2.1); rintro e w22 ⟨v233, rfl, ho0, hb⟩; have n0_ := Aside0.mk (Kd.R_elder' (by (with_reducible repeat (first | apply Kd.R_alloc | apply Kd.R_drewN | apply Kd.R_drew)); exact HO225.out) (Kd.R_base ho0) hb); have n1_ := Aside0.mk (Kd.R_elder' (by (with_reducible repeat (first | apply Kd.R_alloc | apply Kd.R_drewN | apply Kd.R_drew)); exact HO229.out) (Kd.R_base ho0) hb); have n2_ := Aside0.mk (Kd.R_lower (Kd.R_new' (Kd.R_new' ho0 (Kd.R_lt (by (with_reducible repeat (first | apply Kd.R_alloc | apply Kd.R_drewN | apply Kd.R_drew)); exact HO225.out))) (Kd.R_lt (by (with_reducible repeat (first | apply Kd.R_alloc | apply Kd.R_drewN | apply Kd.R_drew)); exact HO229.out))) (below_size (by repeat (first | (with_reducible first | exact HB.out | apply below_alloc | apply pw_below_drewN | apply below_drew1 | refine below_set ?_ GE226.out) | exact HB.out)))); have n3_ := Aside0.mk (blk_below (g := gb226) (o := .cells #[.int .i64 t220, .int .i64 t221, .int .i64 t222] 26 (0, 0)) (by (with_reducible repeat (first | refine blk_drewN ?_ _ | refine blk_drew ?_ | refine blk_alloc ?_ _)); exact BK226.out) hb); have n4_ := Aside0.mk (below_step (by repeat (first | (with_reducible first | exact HB.out | apply below_alloc | apply pw_below_drewN | apply below_drew1 | refine below_set ?_ GE226.out) | exact HB.out)) hb); clear HO225; clear HO229; clear BK226; clear HB; have HO225 := n0_; have HO229 := n1_; have HO234 := n2_; have BK226 := n3_; have HB := n4_; clear n0_ n1_ n2_ n3_ n4_; (try clear hb); (try clear hb2); (try clear hk); (try clear hi); (try clear ho0); obtain ⟨Ao23, co23, eo23⟩ := Kd.R_slice HO234.out; subst eo23) | (go_at_call 25; (with_reducible refine (laws_sameInts.calls k _ _ t227 _ _ t232 true _ ?side1 ?side2 ?side3 ?side4 A13.out).mono ?_); (case side1 => repeat (first | exact (Kd.R_reads' HO229.out).2.2 | (with_reducible refine Kd.C_alloc ?_ _) | (with_reducible refine Kd.C_drewN ?_ _) | (with_reducible refine Kd.C_drew ?_))); (case side2 => exact (Kd.R_reads' HO229.out).2.1); (case side3 => repeat (first | exact (Kd.R_reads' HO234.out).2.2 | (with_reducible refine Kd.C_alloc ?_ _) | (with_reducible refine Kd.C_drewN ?_ _) | (with_reducible refine Kd.C_drew ?_))); (case side4 => exact (Kd.R_reads' HO234.out).2.1); rintro e w' ⟨rfl, ⟨nd, rfl⟩⟩; (try first | exact ⟨rfl, _, World.drewN_drewN _ _ _⟩ | exact ⟨rfl, _, Eq.trans (World.drewN_drewN _ _ _) (congrArg (World.drewN _) (Nat.add_assoc _ _ _))⟩))); try go_wp2_with (first | (go_at_call 18; (with_reducible refine (laws_big.calls _ _ l0 false _ ?side1 ?side2 A2.out).mono ?_); (case side1 => repeat (first | exact HR0.out | (with_reducible refine Kd.C_alloc ?_ _) | (with_reducible refine Kd.C_drewN ?_ _) | (with_reducible refine Kd.C_drew ?_))); (case side2 => exact HC0.out); rintro e w' ⟨rfl, ⟨nd, rfl⟩⟩; (try first | exact ⟨rfl, _, World.drewN_drewN _ _ _⟩ | exact ⟨rfl, _, Eq.trans (World.drewN_drewN _ _ _) (congrArg (World.drewN _) (Nat.add_assoc _ _ _))⟩)) | (go_at_call 19; (with_reducible refine (spec_DrawRightCourse.calls k _ _ l0 t220 t221 t222 t223 _ ?side1 ?side2 A4.out).mono ?_); (case side1 => repeat (first | exact HR0.out | (with_reducible refine Kd.C_alloc ?_ _) | (with_reducible refine Kd.C_drewN ?_ _) | (with_reducible refine Kd.C_drew ?_))); (case side2 => exact HC0.out); rintro e w15 ⟨v224, rfl, ho0, hb⟩; have n0_ := Aside0.mk (Kd.R_lower ho0 (below_size (by repeat (first | (with_reducible first | exact HB.out | apply below_alloc | apply pw_below_drewN | apply below_drew1) | exact HB.out)))); have n1_ := Aside0.mk (below_step (by repeat (first | (with_reducible first | exact HB.out | apply below_alloc | apply pw_below_drewN | apply below_drew1) | exact HB.out)) hb); clear HB; have HO225 := n0_; have HB := n1_; clear n0_ n1_; (try clear hb); (try clear hb2); (try clear hk); (try clear hi); (try clear ho0)) | ((with_reducible refine gate_dst (N := 3) rfl ?_); (try (refine gate_guard (by rfl) ?_; dsimp only)); refine box_event ?hg (N := 3) ?hd (cs := #[.int .i64 0, .int .i64 0, .int .i64 0]) (t := 26) ?hr ?_; (case hd => rfl); (case hg => rfl); (case hr => first | (go_simp; done) | (go_simp; rfl)); intro gb226 hg w16 hbox hb; have n0_ := Aside0.mk (Kd.R_below (by (with_reducible repeat (first | apply Kd.R_alloc | apply Kd.R_drewN | apply Kd.R_drew)); exact HO225.out) hb); have n1_ := Aside0.mk (below_step (by repeat (first | (with_reducible first | exact HB.out | apply below_alloc | apply pw_below_drewN | apply below_drew1) | exact HB.out)) hb); have n2_ := Aside0.mk (hbox); have n3_ := Aside0.mk ((by rw [hg]; exact (below_size (by repeat (first | (with_reducible first | exact HB.out | apply below_alloc | apply pw_below_drewN | apply below_drew1) | exact HB.out))) : w.heap.size ≤ gb226)); have n4_ := Aside0.mk ((by rw [hg]; exact (below_size (by repeat (first | (with_reducible first | exact HB.out | apply below_alloc | apply pw_below_drewN | apply below_drew1) | exact HB.out))) : w.heap.size ≤ gb226)); clear HO225; clear HB; have HO225 := n0_; have HB := n1_; have BK226 := n2_; have GW226 := n3_; have GE226 := n4_; clear n0_ n1_ n2_ n3_ n4_; clear hb hbox hg; have hcz17_0 : w16.cell? ⟨gb226, 0, none⟩ = some (.int .i64 0) := (blk_cell BK226.out 0).trans rfl; have hcz17_1 : w16.cell? ⟨gb226, 1, none⟩ = some (.int .i64 0) := (blk_cell BK226.out 1).trans rfl; have hcz17_2 : w16.cell? ⟨gb226, 2, none⟩ = some (.int .i64 0) := (blk_cell BK226.out 2).trans rfl; have hfz17_0 := blk_frozen BK226.out 0; have hfz17_1 := blk_frozen BK226.out 1; have hfz17_2 := blk_frozen BK226.out 2; obtain ⟨Ao18, co18, eo18⟩ := Kd.R_slice HO225.out; subst eo18) | (go_at_call 14; (with_reducible refine (impl_Squares.calls k t220 t221 t222 _ _ t223 t227 _ ?side1 ?side2 A5.out).mono ?_); (case side1 => refine (Kd.R_reads' (e := 3) (base := w.heap.size) (ok := fun k_ => True) (n := t223.length) (c := co18) ?_).2.2; exact (by (with_reducible repeat (first | apply Kd.R_alloc | apply Kd.R_drewN | apply Kd.R_drew)); exact (Kd.R_mono (Kd.R_far (p := ⟨gb226, 2, none⟩) (Kd.R_far (p := ⟨gb226, 1, none⟩) (Kd.R_far (p := ⟨gb226, 0, none⟩) (Kd.R_types HO225.out BK226.out (by decide)) (fun _ hk => hk.2) (.int .i64 t220)) (fun _ hk => hk.2) (.int .i64 t221)) (fun _ hk => hk.2) (.int .i64 t222)) (fun _ h_ => h_.1)))); (case side2 => exact (Kd.R_reads' HO225.out).2.1); rintro e w19 ⟨v228, rfl, ho0, hb⟩; have n0_ := Aside0.mk (Kd.R_elder' (by (with_reducible repeat (first | apply Kd.R_alloc | apply Kd.R_drewN | apply Kd.R_drew)); exact (Kd.R_mono (Kd.R_far (p := ⟨gb226, 2, none⟩) (Kd.R_far (p := ⟨gb226, 1, none⟩) (Kd.R_far (p := ⟨gb226, 0, none⟩) (Kd.R_types HO225.out BK226.out (by decide)) (fun _ hk => hk.2) (.int .i64 t220)) (fun _ hk => hk.2) (.int .i64 t221)) (fun _ hk => hk.2) (.int .i64 t222)) (fun _ h_ => h_.1))) (Kd.R_base ho0) hb); have n1_ := Aside0.mk (Kd.R_lower (Kd.R_new' ho0 (Kd.R_lt (by (with_reducible repeat (first | apply Kd.R_alloc | apply Kd.R_drewN | apply Kd.R_drew)); exact (Kd.R_mono (Kd.R_far (p := ⟨gb226, 2, none⟩) (Kd.R_far (p := ⟨gb226, 1, none⟩) (Kd.R_far (p := ⟨gb226, 0, none⟩) (Kd.R_types HO225.out BK226.out (by decide)) (fun _ hk => hk.2) (.int .i64 t220)) (fun _ hk => hk.2) (.int .i64 t221)) (fun _ hk => hk.2) (.int .i64 t222)) (fun _ h_ => h_.1))))) (below_size (by repeat (first | (with_reducible first | exact HB.out | apply below_alloc | apply pw_below_drewN | apply below_drew1 | refine below_set ?_ GE226.out) | exact HB.out)))); have n2_ := Aside0.mk (blk_below (g := gb226) (o := .cells #[.int .i64 t220, .int .i64 t221, .int .i64 t222] 26 (0, 0)) (by (with_reducible repeat (first | refine blk_drewN ?_ _ | refine blk_drew ?_ | refine blk_alloc ?_ _)); refine blk_put (cs := #[.int .i64 t220, .int .i64 t221, .int .i64 0]) ?_ 2 _ rfl; (with_reducible repeat (first | refine blk_drewN ?_ _ | refine blk_drew ?_ | refine blk_alloc ?_ _)); refine blk_put (cs := #[.int .i64 t220, .int .i64 0, .int .i64 0]) ?_ 1 _ rfl; (with_reducible repeat (first | refine blk_drewN ?_ _ | refine blk_drew ?_ | refine blk_alloc ?_ _)); refine blk_put (cs := #[.int .i64 0, .int .i64 0, .int .i64 0]) ?_ 0 _ rfl; (with_reducible repeat (first | refine blk_drewN ?_ _ | refine blk_drew ?_ | refine blk_alloc ?_ _)); exact BK226.out) hb); have n3_ := Aside0.mk (below_step (by repeat (first | (with_reducible first | exact HB.out | apply below_alloc | apply pw_below_drewN | apply below_drew1 | refine below_set ?_ GE226.out) | exact HB.out)) hb); clear HO225; clear BK226; clear HB; have HO225 := n0_; have HO229 := n1_; have BK226 := n2_; have HB := n3_; clear n0_ n1_ n2_ n3_; (try clear hb); (try clear hb2); (try clear hk); (try clear hi); (try clear ho0); obtain ⟨Ao20, co20, eo20⟩ := Kd.R_slice HO229.out; subst eo20; have p230 : 0 ≤ (0 : Int) := (by omega); have q230 : 0 < (t227.length : Int) := of_decide_eq_true (by first | (with_reducible assumption) | assumption); obtain ⟨ad230, e230, hx230_0⟩ := Kd.at_int (Kd.R_reads' HO229.out).2.2 0 p230 q230; cases e230; have qi230 : (0 < t227.length) = True := eq_true (by omega); (try rw [show ((0 : Int)).toNat = 0 from rfl] at hx230_0); (try rw [Addr.add_zero'] at hx230_0); replace p230 := eq_true p230; replace q230 := eq_true q230; have p231 : 0 ≤ ((t223.length : Int) : Int) := of_decide_eq_true (by first | (with_reducible assumption) | assumption); have q231 : (t223.length : Int) < (t227.length : Int) := of_decide_eq_true (by first | (with_reducible assumption) | assumption); obtain ⟨ad231, e231, hx231_0⟩ := Kd.at_int (Kd.R_reads' HO229.out).2.2 (t223.length : Int) p231 q231; obtain rfl : ad230 = ad231 := (by injection e231); (try simp only [Go.IntWalk.toNatUp] at hx231_0); replace p231 := eq_true p231; replace q231 := eq_true q231; have hcz21_0 : w19.cell? ⟨gb226, 0, none⟩ = some (.int .i64 t220) := (blk_cell BK226.out 0).trans rfl; have hcz21_1 : w19.cell? ⟨gb226, 1, none⟩ = some (.int .i64 t221) := (blk_cell BK226.out 1).trans rfl; have hcz21_2 : w19.cell? ⟨gb226, 2, none⟩ = some (.int .i64 t222) := (blk_cell BK226.out 2).trans rfl; have hfz21_0 := blk_frozen BK226.out 0; have hfz21_1 := blk_frozen BK226.out 1; have hfz21_2 := blk_frozen BK226.out 2) | (go_at_call 11; (with_reducible refine (spec_Squares.calls k t220 t221 t222 _ _ t223 t232 _ ?side1 ?side2 A12.out).mono ?_); (case side1 => repeat (first | exact (Kd.R_reads' HO225.out).2.2 | (with_reducible refine Kd.C_alloc ?_ _) | (with_reducible refine Kd.C_drewN ?_ _) | (with_reducible refine Kd.C_drew ?_))); (case side2 => exact (Kd.R_reads' HO225.out).2.1); rintro e w22 ⟨v233, rfl, ho0, hb⟩; have n0_ := Aside0.mk (Kd.R_elder' (by (with_reducible repeat (first | apply Kd.R_alloc | apply Kd.R_drewN | apply Kd.R_drew)); exact HO225.out) (Kd.R_base ho0) hb); have n1_ := Aside0.mk (Kd.R_elder' (by (with_reducible repeat (first | apply Kd.R_alloc | apply Kd.R_drewN | apply Kd.R_drew)); exact HO229.out) (Kd.R_base ho0) hb); have n2_ := Aside0.mk (Kd.R_lower (Kd.R_new' (Kd.R_new' ho0 (Kd.R_lt (by (with_reducible repeat (first | apply Kd.R_alloc | apply Kd.R_drewN | apply Kd.R_drew)); exact HO225.out))) (Kd.R_lt (by (with_reducible repeat (first | apply Kd.R_alloc | apply Kd.R_drewN | apply Kd.R_drew)); exact HO229.out))) (below_size (by repeat (first | (with_reducible first | exact HB.out | apply below_alloc | apply pw_below_drewN | apply below_drew1 | refine below_set ?_ GE226.out) | exact HB.out)))); have n3_ := Aside0.mk (blk_below (g := gb226) (o := .cells #[.int .i64 t220, .int .i64 t221, .int .i64 t222] 26 (0, 0)) (by (with_reducible repeat (first | refine blk_drewN ?_ _ | refine blk_drew ?_ | refine blk_alloc ?_ _)); exact BK226.out) hb); have n4_ := Aside0.mk (below_step (by repeat (first | (with_reducible first | exact HB.out | apply below_alloc | apply pw_below_drewN | apply below_drew1 | refine below_set ?_ GE226.out) | exact HB.out)) hb); clear HO225; clear HO229; clear BK226; clear HB; have HO225 := n0_; have HO229 := n1_; have HO234 := n2_; have BK226 := n3_; have HB := n4_; clear n0_ n1_ n2_ n3_ n4_; (try clear hb); (try clear hb2); (try clear hk); (try clear hi); (try clear ho0); obtain ⟨Ao23, co23, eo23⟩ := Kd.R_slice HO234.out; subst eo23) | (go_at_call 25; (with_reducible refine (laws_sameInts.calls k _ _ t227 _ _ t232 true _ ?side1 ?side2 ?side3 ?side4 A13.out).mono ?_); (case side1 => repeat (first | exact (Kd.R_reads' HO229.out).2.2 | (with_reducible refine Kd.C_alloc ?_ _) | (with_reducible refine Kd.C_drewN ?_ _) | (with_reducible refine Kd.C_drew ?_))); (case side2 => exact (Kd.R_reads' HO229.out).2.1); (case side3 => repeat (first | exact (Kd.R_reads' HO234.out).2.2 | (with_reducible refine Kd.C_alloc ?_ _) | (with_reducible refine Kd.C_drewN ?_ _) | (with_reducible refine Kd.C_drew ?_))); (case side4 => exact (Kd.R_reads' HO234.out).2.1); rintro e w' ⟨rfl, ⟨nd, rfl⟩⟩; (try first | exact ⟨rfl, _, World.drewN_drewN _ _ _⟩ | exact ⟨rfl, _, Eq.trans (World.drewN_drewN _ _ _) (congrArg (World.drewN _) (Nat.add_assoc _ _ _))⟩))))
         go_loopg [6] k (fun kq v6 w' => ∃ (x6_1 : Int), v6 = .int .i64 x6_1 ∧ Aside0 (laws_FnSquares.l0 kq t223 t227 x6_1 t220 t221 t222 = some true) ∧ Aside0 (kq ≤ k) ∧ Aside0 (Kd.R (Kd.int .i64) 3 w' w.heap.size (fun k_ => some k_ ≠ ((.slice (some ad230) t227.length co20) : Value).ownBlock) (.slice Ao18 t223.length co18) t223) ∧ Aside0 (Kd.R (Kd.int .i64) 3 w' w.heap.size (fun k_ => some k_ ≠ ((.slice Ao18 t223.length co18) : Value).ownBlock) (.slice (some ad230) t227.length co20) t227) ∧ Aside0 (w'.heap[gb226]? = some (.cells #[.int .i64 t220, .int .i64 t221, .int .i64 t222] 26 (0, 0))) ∧ Aside0 (Below w.heap.size w w'))
         case atStart => exact ⟨(1), (by first | rfl | (simp; done) | (simp [*]; done)), H', ⟨Nat.le_refl _⟩, ⟨by (with_reducible repeat (first | apply Kd.R_alloc | apply Kd.R_drewN | apply Kd.R_drew)); exact Kd.R_mono HO225.out (fun _ hk => hk.1.2)⟩, ⟨by (with_reducible repeat (first | apply Kd.R_alloc | apply Kd.R_drewN | apply Kd.R_drew)); exact Kd.R_mono HO229.out (fun _ hk => hk.1.2)⟩, ⟨by (with_reducible repeat (first | refine blk_drewN ?_ _ | refine blk_drew ?_ | refine blk_alloc ?_ _)); exact BK226.out⟩, ⟨by repeat (first | (with_reducible first | exact HB.out | apply below_alloc | apply pw_below_drewN | apply below_drew1 | refine below_set ?_ GE226.out) | exact HB.out)⟩⟩
         case round =>
          clear H'
          try clear c1
          try clear p2
          try clear q2
          try clear hx2
          try clear qi2
          try clear c3
          try clear c6
          try clear c6b0
          try clear c6b1
          try clear p6
          try clear c7
          try clear c7b0
          try clear c7b1
          try clear c8
          try clear c8b0
          try clear c8b1
          try clear c9
          try clear c9b0
          try clear c9b1
          try clear c10
          try clear c10b0
          try clear c10b1
          try clear c11
          try clear c11b0
          try clear c11b1
          try clear c14
          try clear p23
          try clear q23
          try clear hx23
          try clear qi23
          try clear hcz17_0
          try clear hcz17_1
          try clear hcz17_2
          try clear hcz21_0
          try clear hcz21_1
          try clear hcz21_2
          try clear hfz17_0
          try clear hfz17_1
          try clear hfz17_2
          try clear hfz21_0
          try clear hfz21_1
          try clear hfz21_2
          try clear hx230_0
          try clear hx231_0
          try clear p230
          try clear p231
          try clear q230
          try clear q231
          obtain ⟨x6_1, rfl, HA, HK1, HO_4, HO_5, BK226, HB⟩ := hrel
          cases gk with
          | zero => exact absurd HA.out (by simp [laws_FnSquares.l0])
          | succ k1 =>
           have H := HA.out
           clear HA
           simp only [laws_FnSquares.l0] at H
           by_cases c24 : x6_1 < (t223.length : Int)
           ·rw [if_pos c24] at H
            have c24b0 : decide (x6_1 < (t223.length : Int)) = true := decide_eq_true c24
            clear c24
            obtain ⟨ji25, hji25⟩ : ∃ j_ : Int, (wrap64 (x6_1 - 1)) = j_ := ⟨_, rfl⟩
            replace H : (if 0 ≤ (ji25) then (if (ji25) < (t223.length : Int) then (if (rd t223 (ji25)) < t222 then (if 0 ≤ x6_1 then (if (rd t223 x6_1) < (rd t223 (ji25)) then (if x6_1 < (t227.length : Int) then (if (rd t227 x6_1) > (wrap64 ((rd t223 x6_1) * (rd t223 x6_1))) then (some false) else (if (ji25) < (t227.length : Int) then (if (rd t227 x6_1) > (wrap64 ((rd t227 (ji25)) + t220)) then (some false) else (if 0 ≤ (wrap64 (x6_1 + 1)) then (if (wrap64 (x6_1 + 1)) < (t227.length : Int) then (if (rd t227 x6_1) > (wrap64 ((rd t227 (wrap64 (x6_1 + 1))) + t221)) then (some false) else (if (wrap64 ((rd t227 x6_1) + 1)) ≤ (wrap64 ((rd t223 x6_1) * (rd t223 x6_1))) then (if (wrap64 ((rd t227 x6_1) + 1)) ≤ (wrap64 ((rd t227 (ji25)) + t220)) then (if (wrap64 ((rd t227 x6_1) + 1)) ≤ (wrap64 ((rd t227 (wrap64 (x6_1 + 1))) + t221)) then (some false) else (laws_FnSquares.l0 k1 t223 t227 (wrap64 (x6_1 + 1)) t220 t221 t222)) else (laws_FnSquares.l0 k1 t223 t227 (wrap64 (x6_1 + 1)) t220 t221 t222)) else (laws_FnSquares.l0 k1 t223 t227 (wrap64 (x6_1 + 1)) t220 t221 t222))) else (none)) else (none))) else (none))) else (none)) else (if x6_1 < (t227.length : Int) then (if (rd t227 x6_1) > (wrap64 ((rd t223 (ji25)) * (rd t223 (ji25)))) then (some false) else (if (ji25) < (t227.length : Int) then (if (rd t227 x6_1) > (wrap64 ((rd t227 (ji25)) + t220)) then (some false) else (if 0 ≤ (wrap64 (x6_1 + 1)) then (if (wrap64 (x6_1 + 1)) < (t227.length : Int) then (if (rd t227 x6_1) > (wrap64 ((rd t227 (wrap64 (x6_1 + 1))) + t221)) then (some false) else (if (wrap64 ((rd t227 x6_1) + 1)) ≤ (wrap64 ((rd t223 (ji25)) * (rd t223 (ji25)))) then (if (wrap64 ((rd t227 x6_1) + 1)) ≤ (wrap64 ((rd t227 (ji25)) + t220)) then (if (wrap64 ((rd t227 x6_1) + 1)) ≤ (wrap64 ((rd t227 (wrap64 (x6_1 + 1))) + t221)) then (some false) else (laws_FnSquares.l0 k1 t223 t227 (wrap64 (x6_1 + 1)) t220 t221 t222)) else (laws_FnSquares.l0 k1 t223 t227 (wrap64 (x6_1 + 1)) t220 t221 t222)) else (laws_FnSquares.l0 k1 t223 t227 (wrap64 (x6_1 + 1)) t220 t221 t222))) else (none)) else (none))) else (none))) else (none))) else (none)) else (if 0 ≤ x6_1 then (if (rd t223 x6_1) < t222 then (if x6_1 < (t227.length : Int) then (if (rd t227 x6_1) > (wrap64 ((rd t223 x6_1) * (rd t223 x6_1))) then (some false) else (if (ji25) < (t227.length : Int) then (if (rd t227 x6_1) > (wrap64 ((rd t227 (ji25)) + t220)) then (some false) else (if 0 ≤ (wrap64 (x6_1 + 1)) then (if (wrap64 (x6_1 + 1)) < (t227.length : Int) then (if (rd t227 x6_1) > (wrap64 ((rd t227 (wrap64 (x6_1 + 1))) + t221)) then (some false) else (if (wrap64 ((rd t227 x6_1) + 1)) ≤ (wrap64 ((rd t223 x6_1) * (rd t223 x6_1))) then (if (wrap64 ((rd t227 x6_1) + 1)) ≤ (wrap64 ((rd t227 (ji25)) + t220)) then (if (wrap64 ((rd t227 x6_1) + 1)) ≤ (wrap64 ((rd t227 (wrap64 (x6_1 + 1))) + t221)) then (some false) else (laws_FnSquares.l0 k1 t223 t227 (wrap64 (x6_1 + 1)) t220 t221 t222)) else (laws_FnSquares.l0 k1 t223 t227 (wrap64 (x6_1 + 1)) t220 t221 t222)) else (laws_FnSquares.l0 k1 t223 t227 (wrap64 (x6_1 + 1)) t220 t221 t222))) else (none)) else (none))) else (none))) else (none)) else (if x6_1 < (t227.length : Int) then (if (rd t227 x6_1) > (wrap64 (t222 * t222)) then (some false) else (if (ji25) < (t227.length : Int) then (if (rd t227 x6_1) > (wrap64 ((rd t227 (ji25)) + t220)) then (some false) else (if 0 ≤ (wrap64 (x6_1 + 1)) then (if (wrap64 (x6_1 + 1)) < (t227.length : Int) then (if (rd t227 x6_1) > (wrap64 ((rd t227 (wrap64 (x6_1 + 1))) + t221)) then (some false) else (if (wrap64 ((rd t227 x6_1) + 1)) ≤ (wrap64 (t222 * t222)) then (if (wrap64 ((rd t227 x6_1) + 1)) ≤ (wrap64 ((rd t227 (ji25)) + t220)) then (if (wrap64 ((rd t227 x6_1) + 1)) ≤ (wrap64 ((rd t227 (wrap64 (x6_1 + 1))) + t221)) then (some false) else (laws_FnSquares.l0 k1 t223 t227 (wrap64 (x6_1 + 1)) t220 t221 t222)) else (laws_FnSquares.l0 k1 t223 t227 (wrap64 (x6_1 + 1)) t220 t221 t222)) else (laws_FnSquares.l0 k1 t223 t227 (wrap64 (x6_1 + 1)) t220 t221 t222))) else (none)) else (none))) else (none))) else (none))) else (none))) else (none)) else (none)) = some true := by first | (rw [hji25] at H; exact H) | (simp only [hji25] at H ⊢; exact H)
            have hji25w : (IntKind.i64.wrap (x6_1 - 1)) = ji25 := (i64_w _).trans hji25
            by_cases c26 : 0 ≤ (ji25)
            ·rw [if_pos c26] at H
             have c26b0 : decide (0 ≤ (ji25)) = true := decide_eq_true c26
             clear c26
             by_cases c27 : (ji25) < (t223.length : Int)
             ·rw [if_pos c27] at H
              have c27b0 : decide ((ji25) < (t223.length : Int)) = true := decide_eq_true c27
              clear c27
              by_cases c28 : (rd t223 (ji25)) < t222
              ·rw [if_pos c28] at H
               have c28b0 : decide ((rd t223 (ji25)) < t222) = true := decide_eq_true c28
               clear c28
               by_cases c29 : 0 ≤ x6_1
               ·rw [if_pos c29] at H
                have c29b0 : decide (0 ≤ x6_1) = true := decide_eq_true c29
                clear c29
                by_cases c30 : (rd t223 x6_1) < (rd t223 (ji25))
                ·rw [if_pos c30] at H
                 have c30b0 : decide ((rd t223 x6_1) < (rd t223 (ji25))) = true := decide_eq_true c30
                 clear c30
                 by_cases c31 : x6_1 < (t227.length : Int)
                 ·rw [if_pos c31] at H
                  have c31b0 : decide (x6_1 < (t227.length : Int)) = true := decide_eq_true c31
                  clear c31
                  by_cases c32 : (rd t227 x6_1) > (wrap64 ((rd t223 x6_1) * (rd t223 x6_1)))
                  ·rw [if_pos c32] at H
                   have c32b0 : decide ((wrap64 ((rd t223 x6_1) * (rd t223 x6_1))) < (rd t227 x6_1)) = true := decide_eq_true c32
                   clear c32
                   exact absurd (Option.some.inj H) (by decide)
                  ·rw [if_neg c32] at H
                   have c32b0 : decide ((wrap64 ((rd t223 x6_1) * (rd t223 x6_1))) < (rd t227 x6_1)) = false := decide_eq_false c32
                   clear c32
                   by_cases c33 : (ji25) < (t227.length : Int)
                   ·rw [if_pos c33] at H
                    have c33b0 : decide ((ji25) < (t227.length : Int)) = true := decide_eq_true c33
                    clear c33
                    by_cases c34 : (rd t227 x6_1) > (wrap64 ((rd t227 (ji25)) + t220))
                    ·rw [if_pos c34] at H
                     have c34b0 : decide ((wrap64 ((rd t227 (ji25)) + t220)) < (rd t227 x6_1)) = true := decide_eq_true c34
                     clear c34
                     exact absurd (Option.some.inj H) (by decide)
                    ·rw [if_neg c34] at H
                     have c34b0 : decide ((wrap64 ((rd t227 (ji25)) + t220)) < (rd t227 x6_1)) = false := decide_eq_false c34
                     clear c34
                     obtain ⟨ji35, hji35⟩ : ∃ j_ : Int, (wrap64 (x6_1 + 1)) = j_ := ⟨_, rfl⟩
                     replace H : (if 0 ≤ (ji35) then (if (ji35) < (t227.length : Int) then (if (rd t227 x6_1) > (wrap64 ((rd t227 (ji35)) + t221)) then (some false) else (if (wrap64 ((rd t227 x6_1) + 1)) ≤ (wrap64 ((rd t223 x6_1) * (rd t223 x6_1))) then (if (wrap64 ((rd t227 x6_1) + 1)) ≤ (wrap64 ((rd t227 (ji25)) + t220)) then (if (wrap64 ((rd t227 x6_1) + 1)) ≤ (wrap64 ((rd t227 (ji35)) + t221)) then (some false) else (laws_FnSquares.l0 k1 t223 t227 ji35 t220 t221 t222)) else (laws_FnSquares.l0 k1 t223 t227 ji35 t220 t221 t222)) else (laws_FnSquares.l0 k1 t223 t227 ji35 t220 t221 t222))) else (none)) else (none)) = some true := by first | (rw [hji35] at H; exact H) | (simp only [hji35] at H ⊢; exact H)
                     have hji35w : (IntKind.i64.wrap (x6_1 + 1)) = ji35 := (i64_w _).trans hji35
                     by_cases c36 : 0 ≤ (ji35)
                     ·rw [if_pos c36] at H
                      have c36b0 : decide (0 ≤ (ji35)) = true := decide_eq_true c36
                      clear c36
                      by_cases c37 : (ji35) < (t227.length : Int)
                      ·rw [if_pos c37] at H
                       have c37b0 : decide ((ji35) < (t227.length : Int)) = true := decide_eq_true c37
                       clear c37
                       by_cases c38 : (rd t227 x6_1) > (wrap64 ((rd t227 (ji35)) + t221))
                       ·rw [if_pos c38] at H
                        have c38b0 : decide ((wrap64 ((rd t227 (ji35)) + t221)) < (rd t227 x6_1)) = true := decide_eq_true c38
                        clear c38
                        exact absurd (Option.some.inj H) (by decide)
                       ·rw [if_neg c38] at H
                        have c38b0 : decide ((wrap64 ((rd t227 (ji35)) + t221)) < (rd t227 x6_1)) = false := decide_eq_false c38
                        clear c38
                        by_cases c39 : (wrap64 ((rd t227 x6_1) + 1)) ≤ (wrap64 ((rd t223 x6_1) * (rd t223 x6_1)))
                        ·rw [if_pos c39] at H
                         have c39b0 : decide ((wrap64 ((rd t227 x6_1) + 1)) ≤ (wrap64 ((rd t223 x6_1) * (rd t223 x6_1)))) = true := decide_eq_true c39
                         clear c39
                         by_cases c40 : (wrap64 ((rd t227 x6_1) + 1)) ≤ (wrap64 ((rd t227 (ji25)) + t220))
                         ·rw [if_pos c40] at H
                          have c40b0 : decide ((wrap64 ((rd t227 x6_1) + 1)) ≤ (wrap64 ((rd t227 (ji25)) + t220))) = true := decide_eq_true c40
                          clear c40
                          by_cases c41 : (wrap64 ((rd t227 x6_1) + 1)) ≤ (wrap64 ((rd t227 (ji35)) + t221))
                          ·rw [if_pos c41] at H
                           have c41b0 : decide ((wrap64 ((rd t227 x6_1) + 1)) ≤ (wrap64 ((rd t227 (ji35)) + t221))) = true := decide_eq_true c41
                           clear c41
                           exact absurd (Option.some.inj H) (by decide)
                          ·rw [if_neg c41] at H
                           have c41b0 : decide ((wrap64 ((rd t227 x6_1) + 1)) ≤ (wrap64 ((rd t227 (ji35)) + t221))) = false := decide_eq_false c41
                           clear c41
                           have H' := Aside0.mk H
                           clear H
                           have hcz42_0 : wr.cell? ⟨gb226, 0, none⟩ = some (.int .i64 t220) := (blk_cell BK226.out 0).trans rfl
                           have hcz42_1 : wr.cell? ⟨gb226, 1, none⟩ = some (.int .i64 t221) := (blk_cell BK226.out 1).trans rfl
                           have hcz42_2 : wr.cell? ⟨gb226, 2, none⟩ = some (.int .i64 t222) := (blk_cell BK226.out 2).trans rfl
                           have hfz42_0 := blk_frozen BK226.out 0
                           have hfz42_1 := blk_frozen BK226.out 1
                           have hfz42_2 := blk_frozen BK226.out 2
                           have p236 : 0 ≤ ((ji25) : Int) := of_decide_eq_true (by first | (with_reducible assumption) | assumption)
                           have q236 : (ji25) < (t223.length : Int) := of_decide_eq_true (by first | (with_reducible assumption) | assumption)
                           obtain ⟨ad236, e236, hx236_0⟩ := Kd.at_int (Kd.R_reads' HO_4.out).2.2 (ji25) p236 q236
                           cases e236
                           replace p236 := eq_true p236
                           replace q236 := eq_true q236
                           have p237 : 0 ≤ ((ji25) : Int) := of_decide_eq_true (by first | (with_reducible assumption) | assumption)
                           have q237 : (ji25) < (t223.length : Int) := of_decide_eq_true (by first | (with_reducible assumption) | assumption)
                           obtain ⟨ad237, e237, hx237_0⟩ := Kd.at_int (Kd.R_reads' HO_4.out).2.2 (ji25) p237 q237
                           obtain rfl : ad236 = ad237 := (by injection e237)
                           replace p237 := eq_true p237
                           replace q237 := eq_true q237
                           have p238 : 0 ≤ (x6_1 : Int) := of_decide_eq_true (by first | (with_reducible assumption) | assumption)
                           have q238 : x6_1 < (t223.length : Int) := of_decide_eq_true (by first | (with_reducible assumption) | assumption)
                           obtain ⟨ad238, e238, hx238_0⟩ := Kd.at_int (Kd.R_reads' HO_4.out).2.2 x6_1 p238 q238
                           obtain rfl : ad236 = ad238 := (by injection e238)
                           replace p238 := eq_true p238
                           replace q238 := eq_true q238
                           have p239 : 0 ≤ (x6_1 : Int) := of_decide_eq_true (by first | (with_reducible assumption) | assumption)
                           have q239 : x6_1 < (t223.length : Int) := of_decide_eq_true (by first | (with_reducible assumption) | assumption)
                           obtain ⟨ad239, e239, hx239_0⟩ := Kd.at_int (Kd.R_reads' HO_4.out).2.2 x6_1 p239 q239
                           obtain rfl : ad236 = ad239 := (by injection e239)
                           replace p239 := eq_true p239
                           replace q239 := eq_true q239
                           have p240 : 0 ≤ (x6_1 : Int) := of_decide_eq_true (by first | (with_reducible assumption) | assumption)
                           have q240 : x6_1 < (t227.length : Int) := of_decide_eq_true (by first | (with_reducible assumption) | assumption)
                           obtain ⟨ad240, e240, hx240_0⟩ := Kd.at_int (Kd.R_reads' HO_5.out).2.2 x6_1 p240 q240
                           obtain rfl : ad230 = ad240 := (by injection e240)
                           replace p240 := eq_true p240
                           replace q240 := eq_true q240
                           have p241 : 0 ≤ ((ji25) : Int) := of_decide_eq_true (by first | (with_reducible assumption) | assumption)
                           have q241 : (ji25) < (t227.length : Int) := of_decide_eq_true (by first | (with_reducible assumption) | assumption)
                           obtain ⟨ad241, e241, hx241_0⟩ := Kd.at_int (Kd.R_reads' HO_5.out).2.2 (ji25) p241 q241
                           obtain rfl : ad230 = ad241 := (by injection e241)
                           replace p241 := eq_true p241
                           replace q241 := eq_true q241
                           have p242 : 0 ≤ ((ji35) : Int) := of_decide_eq_true (by first | (with_reducible assumption) | assumption)
                           have q242 : (ji35) < (t227.length : Int) := of_decide_eq_true (by first | (with_reducible assumption) | assumption)
                           obtain ⟨ad242, e242, hx242_0⟩ := Kd.at_int (Kd.R_reads' HO_5.out).2.2 (ji35) p242 q242
                           obtain rfl : ad230 = ad242 := (by injection e242)
                           replace p242 := eq_true p242
                           replace q242 := eq_true q242
                           have p243 : 0 ≤ ((ji25) : Int) := of_decide_eq_true (by first | (with_reducible assumption) | assumption)
                           have q243 : (ji25) < (t227.length : Int) := of_decide_eq_true (by first | (with_reducible assumption) | assumption)
                           obtain ⟨ad243, e243, hx243_0⟩ := Kd.at_int (Kd.R_reads' HO_5.out).2.2 (ji25) p243 q243
                           obtain rfl : ad230 = ad243 := (by injection e243)
                           replace p243 := eq_true p243
                           replace q243 := eq_true q243
                           have p244 : 0 ≤ ((ji35) : Int) := of_decide_eq_true (by first | (with_reducible assumption) | assumption)
                           have q244 : (ji35) < (t227.length : Int) := of_decide_eq_true (by first | (with_reducible assumption) | assumption)
                           obtain ⟨ad244, e244, hx244_0⟩ := Kd.at_int (Kd.R_reads' HO_5.out).2.2 (ji35) p244 q244
                           obtain rfl : ad230 = ad244 := (by injection e244)
                           replace p244 := eq_true p244
                           replace q244 := eq_true q244
                           go_wp2
                           repeat (go_quiet (fail); try go_wp2)
                           go_roundg k1
                           case measure => have := HK1.out; omega
                           case rel => exact ⟨(ji35), (by first | rfl | (simp; done) | (simp only [← hji35] <;> (first | rfl | simp)) | (simp [*]; done)), H', ⟨by have := HK1.out; omega⟩, ⟨by (with_reducible repeat (first | apply Kd.R_alloc | apply Kd.R_drewN | apply Kd.R_drew)); exact HO_4.out⟩, ⟨by (with_reducible repeat (first | apply Kd.R_alloc | apply Kd.R_drewN | apply Kd.R_drew)); exact HO_5.out⟩, ⟨by (with_reducible repeat (first | refine blk_drewN ?_ _ | refine blk_drew ?_ | refine blk_alloc ?_ _)); exact BK226.out⟩, ⟨by repeat (first | (with_reducible first | exact HB.out | apply below_alloc | apply pw_below_drewN | apply below_drew1 | refine below_set ?_ GE226.out) | exact HB.out)⟩⟩
                         ·rw [if_neg c40] at H
                          have c40b0 : decide ((wrap64 ((rd t227 x6_1) + 1)) ≤ (wrap64 ((rd t227 (ji25)) + t220))) = false := decide_eq_false c40
                          clear c40
                          have H' := Aside0.mk H
                          clear H
                          have hcz43_0 : wr.cell? ⟨gb226, 0, none⟩ = some (.int .i64 t220) := (blk_cell BK226.out 0).trans rfl
                          have hcz43_1 : wr.cell? ⟨gb226, 1, none⟩ = some (.int .i64 t221) := (blk_cell BK226.out 1).trans rfl
                          have hcz43_2 : wr.cell? ⟨gb226, 2, none⟩ = some (.int .i64 t222) := (blk_cell BK226.out 2).trans rfl
                          have hfz43_0 := blk_frozen BK226.out 0
                          have hfz43_1 := blk_frozen BK226.out 1
                          have hfz43_2 := blk_frozen BK226.out 2
                          have p236 : 0 ≤ ((ji25) : Int) := of_decide_eq_true (by first | (with_reducible assumption) | assumption)
                          have q236 : (ji25) < (t223.length : Int) := of_decide_eq_true (by first | (with_reducible assumption) | assumption)
                          obtain ⟨ad236, e236, hx236_0⟩ := Kd.at_int (Kd.R_reads' HO_4.out).2.2 (ji25) p236 q236
                          cases e236
                          replace p236 := eq_true p236
                          replace q236 := eq_true q236
                          have p237 : 0 ≤ ((ji25) : Int) := of_decide_eq_true (by first | (with_reducible assumption) | assumption)
                          have q237 : (ji25) < (t223.length : Int) := of_decide_eq_true (by first | (with_reducible assumption) | assumption)
                          obtain ⟨ad237, e237, hx237_0⟩ := Kd.at_int (Kd.R_reads' HO_4.out).2.2 (ji25) p237 q237
                          obtain rfl : ad236 = ad237 := (by injection e237)
                          replace p237 := eq_true p237
                          replace q237 := eq_true q237
                          have p238 : 0 ≤ (x6_1 : Int) := of_decide_eq_true (by first | (with_reducible assumption) | assumption)
                          have q238 : x6_1 < (t223.length : Int) := of_decide_eq_true (by first | (with_reducible assumption) | assumption)
                          obtain ⟨ad238, e238, hx238_0⟩ := Kd.at_int (Kd.R_reads' HO_4.out).2.2 x6_1 p238 q238
                          obtain rfl : ad236 = ad238 := (by injection e238)
                          replace p238 := eq_true p238
                          replace q238 := eq_true q238
                          have p239 : 0 ≤ (x6_1 : Int) := of_decide_eq_true (by first | (with_reducible assumption) | assumption)
                          have q239 : x6_1 < (t223.length : Int) := of_decide_eq_true (by first | (with_reducible assumption) | assumption)
                          obtain ⟨ad239, e239, hx239_0⟩ := Kd.at_int (Kd.R_reads' HO_4.out).2.2 x6_1 p239 q239
                          obtain rfl : ad236 = ad239 := (by injection e239)
                          replace p239 := eq_true p239
                          replace q239 := eq_true q239
                          have p240 : 0 ≤ (x6_1 : Int) := of_decide_eq_true (by first | (with_reducible assumption) | assumption)
                          have q240 : x6_1 < (t227.length : Int) := of_decide_eq_true (by first | (with_reducible assumption) | assumption)
                          obtain ⟨ad240, e240, hx240_0⟩ := Kd.at_int (Kd.R_reads' HO_5.out).2.2 x6_1 p240 q240
                          obtain rfl : ad230 = ad240 := (by injection e240)
                          replace p240 := eq_true p240
                          replace q240 := eq_true q240
                          have p241 : 0 ≤ ((ji25) : Int) := of_decide_eq_true (by first | (with_reducible assumption) | assumption)
                          have q241 : (ji25) < (t227.length : Int) := of_decide_eq_true (by first | (with_reducible assumption) | assumption)
                          obtain ⟨ad241, e241, hx241_0⟩ := Kd.at_int (Kd.R_reads' HO_5.out).2.2 (ji25) p241 q241
                          obtain rfl : ad230 = ad241 := (by injection e241)
                          replace p241 := eq_true p241
                          replace q241 := eq_true q241
                          have p242 : 0 ≤ ((ji35) : Int) := of_decide_eq_true (by first | (with_reducible assumption) | assumption)
                          have q242 : (ji35) < (t227.length : Int) := of_decide_eq_true (by first | (with_reducible assumption) | assumption)
                          obtain ⟨ad242, e242, hx242_0⟩ := Kd.at_int (Kd.R_reads' HO_5.out).2.2 (ji35) p242 q242
                          obtain rfl : ad230 = ad242 := (by injection e242)
                          replace p242 := eq_true p242
                          replace q242 := eq_true q242
                          have p243 : 0 ≤ ((ji25) : Int) := of_decide_eq_true (by first | (with_reducible assumption) | assumption)
                          have q243 : (ji25) < (t227.length : Int) := of_decide_eq_true (by first | (with_reducible assumption) | assumption)
                          obtain ⟨ad243, e243, hx243_0⟩ := Kd.at_int (Kd.R_reads' HO_5.out).2.2 (ji25) p243 q243
                          obtain rfl : ad230 = ad243 := (by injection e243)
                          replace p243 := eq_true p243
                          replace q243 := eq_true q243
                          go_wp2
                          repeat (go_quiet (fail); try go_wp2)
                          go_roundg k1
                          case measure => have := HK1.out; omega
                          case rel => exact ⟨(ji35), (by first | rfl | (simp; done) | (simp only [← hji35] <;> (first | rfl | simp)) | (simp [*]; done)), H', ⟨by have := HK1.out; omega⟩, ⟨by (with_reducible repeat (first | apply Kd.R_alloc | apply Kd.R_drewN | apply Kd.R_drew)); exact HO_4.out⟩, ⟨by (with_reducible repeat (first | apply Kd.R_alloc | apply Kd.R_drewN | apply Kd.R_drew)); exact HO_5.out⟩, ⟨by (with_reducible repeat (first | refine blk_drewN ?_ _ | refine blk_drew ?_ | refine blk_alloc ?_ _)); exact BK226.out⟩, ⟨by repeat (first | (with_reducible first | exact HB.out | apply below_alloc | apply pw_below_drewN | apply below_drew1 | refine below_set ?_ GE226.out) | exact HB.out)⟩⟩
                        ·rw [if_neg c39] at H
                         have c39b0 : decide ((wrap64 ((rd t227 x6_1) + 1)) ≤ (wrap64 ((rd t223 x6_1) * (rd t223 x6_1)))) = false := decide_eq_false c39
                         clear c39
                         have H' := Aside0.mk H
                         clear H
                         have hcz44_0 : wr.cell? ⟨gb226, 0, none⟩ = some (.int .i64 t220) := (blk_cell BK226.out 0).trans rfl
                         have hcz44_1 : wr.cell? ⟨gb226, 1, none⟩ = some (.int .i64 t221) := (blk_cell BK226.out 1).trans rfl
                         have hcz44_2 : wr.cell? ⟨gb226, 2, none⟩ = some (.int .i64 t222) := (blk_cell BK226.out 2).trans rfl
                         have hfz44_0 := blk_frozen BK226.out 0
                         have hfz44_1 := blk_frozen BK226.out 1
                         have hfz44_2 := blk_frozen BK226.out 2
                         have p236 : 0 ≤ ((ji25) : Int) := of_decide_eq_true (by first | (with_reducible assumption) | assumption)
                         have q236 : (ji25) < (t223.length : Int) := of_decide_eq_true (by first | (with_reducible assumption) | assumption)
                         obtain ⟨ad236, e236, hx236_0⟩ := Kd.at_int (Kd.R_reads' HO_4.out).2.2 (ji25) p236 q236
                         cases e236
                         replace p236 := eq_true p236
                         replace q236 := eq_true q236
                         have p237 : 0 ≤ ((ji25) : Int) := of_decide_eq_true (by first | (with_reducible assumption) | assumption)
                         have q237 : (ji25) < (t223.length : Int) := of_decide_eq_true (by first | (with_reducible assumption) | assumption)
                         obtain ⟨ad237, e237, hx237_0⟩ := Kd.at_int (Kd.R_reads' HO_4.out).2.2 (ji25) p237 q237
                         obtain rfl : ad236 = ad237 := (by injection e237)
                         replace p237 := eq_true p237
                         replace q237 := eq_true q237
                         have p238 : 0 ≤ (x6_1 : Int) := of_decide_eq_true (by first | (with_reducible assumption) | assumption)
                         have q238 : x6_1 < (t223.length : Int) := of_decide_eq_true (by first | (with_reducible assumption) | assumption)
                         obtain ⟨ad238, e238, hx238_0⟩ := Kd.at_int (Kd.R_reads' HO_4.out).2.2 x6_1 p238 q238
                         obtain rfl : ad236 = ad238 := (by injection e238)
                         replace p238 := eq_true p238
                         replace q238 := eq_true q238
                         have p239 : 0 ≤ (x6_1 : Int) := of_decide_eq_true (by first | (with_reducible assumption) | assumption)
                         have q239 : x6_1 < (t223.length : Int) := of_decide_eq_true (by first | (with_reducible assumption) | assumption)
                         obtain ⟨ad239, e239, hx239_0⟩ := Kd.at_int (Kd.R_reads' HO_4.out).2.2 x6_1 p239 q239
                         obtain rfl : ad236 = ad239 := (by injection e239)
                         replace p239 := eq_true p239
                         replace q239 := eq_true q239
                         have p240 : 0 ≤ (x6_1 : Int) := of_decide_eq_true (by first | (with_reducible assumption) | assumption)
                         have q240 : x6_1 < (t227.length : Int) := of_decide_eq_true (by first | (with_reducible assumption) | assumption)
                         obtain ⟨ad240, e240, hx240_0⟩ := Kd.at_int (Kd.R_reads' HO_5.out).2.2 x6_1 p240 q240
                         obtain rfl : ad230 = ad240 := (by injection e240)
                         replace p240 := eq_true p240
                         replace q240 := eq_true q240
                         have p241 : 0 ≤ ((ji25) : Int) := of_decide_eq_true (by first | (with_reducible assumption) | assumption)
                         have q241 : (ji25) < (t227.length : Int) := of_decide_eq_true (by first | (with_reducible assumption) | assumption)
                         obtain ⟨ad241, e241, hx241_0⟩ := Kd.at_int (Kd.R_reads' HO_5.out).2.2 (ji25) p241 q241
                         obtain rfl : ad230 = ad241 := (by injection e241)
                         replace p241 := eq_true p241
                         replace q241 := eq_true q241
                         have p242 : 0 ≤ ((ji35) : Int) := of_decide_eq_true (by first | (with_reducible assumption) | assumption)
                         have q242 : (ji35) < (t227.length : Int) := of_decide_eq_true (by first | (with_reducible assumption) | assumption)
                         obtain ⟨ad242, e242, hx242_0⟩ := Kd.at_int (Kd.R_reads' HO_5.out).2.2 (ji35) p242 q242
                         obtain rfl : ad230 = ad242 := (by injection e242)
                         replace p242 := eq_true p242
                         replace q242 := eq_true q242
                         go_wp2
                         repeat (go_quiet (fail); try go_wp2)
                         go_roundg k1
                         case measure => have := HK1.out; omega
                         case rel => exact ⟨(ji35), (by first | rfl | (simp; done) | (simp only [← hji35] <;> (first | rfl | simp)) | (simp [*]; done)), H', ⟨by have := HK1.out; omega⟩, ⟨by (with_reducible repeat (first | apply Kd.R_alloc | apply Kd.R_drewN | apply Kd.R_drew)); exact HO_4.out⟩, ⟨by (with_reducible repeat (first | apply Kd.R_alloc | apply Kd.R_drewN | apply Kd.R_drew)); exact HO_5.out⟩, ⟨by (with_reducible repeat (first | refine blk_drewN ?_ _ | refine blk_drew ?_ | refine blk_alloc ?_ _)); exact BK226.out⟩, ⟨by repeat (first | (with_reducible first | exact HB.out | apply below_alloc | apply pw_below_drewN | apply below_drew1 | refine below_set ?_ GE226.out) | exact HB.out)⟩⟩
                      ·rw [if_neg c37] at H
                       exact absurd H (by simp)
                     ·rw [if_neg c36] at H
                      exact absurd H (by simp)
                   ·rw [if_neg c33] at H
                    exact absurd H (by simp)
                 ·rw [if_neg c31] at H
                  exact absurd H (by simp)
                ·rw [if_neg c30] at H
                 have c30b0 : decide ((rd t223 x6_1) < (rd t223 (ji25))) = false := decide_eq_false c30
                 clear c30
                 by_cases c45 : x6_1 < (t227.length : Int)
                 ·rw [if_pos c45] at H
                  have c45b0 : decide (x6_1 < (t227.length : Int)) = true := decide_eq_true c45
                  clear c45
                  by_cases c46 : (rd t227 x6_1) > (wrap64 ((rd t223 (ji25)) * (rd t223 (ji25))))
                  ·rw [if_pos c46] at H
                   have c46b0 : decide ((wrap64 ((rd t223 (ji25)) * (rd t223 (ji25)))) < (rd t227 x6_1)) = true := decide_eq_true c46
                   clear c46
                   exact absurd (Option.some.inj H) (by decide)
                  ·rw [if_neg c46] at H
                   have c46b0 : decide ((wrap64 ((rd t223 (ji25)) * (rd t223 (ji25)))) < (rd t227 x6_1)) = false := decide_eq_false c46
                   clear c46
                   by_cases c47 : (ji25) < (t227.length : Int)
                   ·rw [if_pos c47] at H
                    have c47b0 : decide ((ji25) < (t227.length : Int)) = true := decide_eq_true c47
                    clear c47
                    by_cases c48 : (rd t227 x6_1) > (wrap64 ((rd t227 (ji25)) + t220))
                    ·rw [if_pos c48] at H
                     have c48b0 : decide ((wrap64 ((rd t227 (ji25)) + t220)) < (rd t227 x6_1)) = true := decide_eq_true c48
                     clear c48
                     exact absurd (Option.some.inj H) (by decide)
                    ·rw [if_neg c48] at H
                     have c48b0 : decide ((wrap64 ((rd t227 (ji25)) + t220)) < (rd t227 x6_1)) = false := decide_eq_false c48
                     clear c48
                     obtain ⟨ji49, hji49⟩ : ∃ j_ : Int, (wrap64 (x6_1 + 1)) = j_ := ⟨_, rfl⟩
                     replace H : (if 0 ≤ (ji49) then (if (ji49) < (t227.length : Int) then (if (rd t227 x6_1) > (wrap64 ((rd t227 (ji49)) + t221)) then (some false) else (if (wrap64 ((rd t227 x6_1) + 1)) ≤ (wrap64 ((rd t223 (ji25)) * (rd t223 (ji25)))) then (if (wrap64 ((rd t227 x6_1) + 1)) ≤ (wrap64 ((rd t227 (ji25)) + t220)) then (if (wrap64 ((rd t227 x6_1) + 1)) ≤ (wrap64 ((rd t227 (ji49)) + t221)) then (some false) else (laws_FnSquares.l0 k1 t223 t227 ji49 t220 t221 t222)) else (laws_FnSquares.l0 k1 t223 t227 ji49 t220 t221 t222)) else (laws_FnSquares.l0 k1 t223 t227 ji49 t220 t221 t222))) else (none)) else (none)) = some true := by first | (rw [hji49] at H; exact H) | (simp only [hji49] at H ⊢; exact H)
                     have hji49w : (IntKind.i64.wrap (x6_1 + 1)) = ji49 := (i64_w _).trans hji49
                     by_cases c50 : 0 ≤ (ji49)
                     ·rw [if_pos c50] at H
                      have c50b0 : decide (0 ≤ (ji49)) = true := decide_eq_true c50
                      clear c50
                      by_cases c51 : (ji49) < (t227.length : Int)
                      ·rw [if_pos c51] at H
                       have c51b0 : decide ((ji49) < (t227.length : Int)) = true := decide_eq_true c51
                       clear c51
                       by_cases c52 : (rd t227 x6_1) > (wrap64 ((rd t227 (ji49)) + t221))
                       ·rw [if_pos c52] at H
                        have c52b0 : decide ((wrap64 ((rd t227 (ji49)) + t221)) < (rd t227 x6_1)) = true := decide_eq_true c52
                        clear c52
                        exact absurd (Option.some.inj H) (by decide)
                       ·rw [if_neg c52] at H
                        have c52b0 : decide ((wrap64 ((rd t227 (ji49)) + t221)) < (rd t227 x6_1)) = false := decide_eq_false c52
                        clear c52
                        by_cases c53 : (wrap64 ((rd t227 x6_1) + 1)) ≤ (wrap64 ((rd t223 (ji25)) * (rd t223 (ji25))))
                        ·rw [if_pos c53] at H
                         have c53b0 : decide ((wrap64 ((rd t227 x6_1) + 1)) ≤ (wrap64 ((rd t223 (ji25)) * (rd t223 (ji25))))) = true := decide_eq_true c53
                         clear c53
                         by_cases c54 : (wrap64 ((rd t227 x6_1) + 1)) ≤ (wrap64 ((rd t227 (ji25)) + t220))
                         ·rw [if_pos c54] at H
                          have c54b0 : decide ((wrap64 ((rd t227 x6_1) + 1)) ≤ (wrap64 ((rd t227 (ji25)) + t220))) = true := decide_eq_true c54
                          clear c54
                          by_cases c55 : (wrap64 ((rd t227 x6_1) + 1)) ≤ (wrap64 ((rd t227 (ji49)) + t221))
                          ·rw [if_pos c55] at H
                           have c55b0 : decide ((wrap64 ((rd t227 x6_1) + 1)) ≤ (wrap64 ((rd t227 (ji49)) + t221))) = true := decide_eq_true c55
                           clear c55
                           exact absurd (Option.some.inj H) (by decide)
                          ·rw [if_neg c55] at H
                           have c55b0 : decide ((wrap64 ((rd t227 x6_1) + 1)) ≤ (wrap64 ((rd t227 (ji49)) + t221))) = false := decide_eq_false c55
                           clear c55
                           have H' := Aside0.mk H
                           clear H
                           have hcz56_0 : wr.cell? ⟨gb226, 0, none⟩ = some (.int .i64 t220) := (blk_cell BK226.out 0).trans rfl
                           have hcz56_1 : wr.cell? ⟨gb226, 1, none⟩ = some (.int .i64 t221) := (blk_cell BK226.out 1).trans rfl
                           have hcz56_2 : wr.cell? ⟨gb226, 2, none⟩ = some (.int .i64 t222) := (blk_cell BK226.out 2).trans rfl
                           have hfz56_0 := blk_frozen BK226.out 0
                           have hfz56_1 := blk_frozen BK226.out 1
                           have hfz56_2 := blk_frozen BK226.out 2
                           have p236 : 0 ≤ ((ji25) : Int) := of_decide_eq_true (by first | (with_reducible assumption) | assumption)
                           have q236 : (ji25) < (t223.length : Int) := of_decide_eq_true (by first | (with_reducible assumption) | assumption)
                           obtain ⟨ad236, e236, hx236_0⟩ := Kd.at_int (Kd.R_reads' HO_4.out).2.2 (ji25) p236 q236
                           cases e236
                           replace p236 := eq_true p236
                           replace q236 := eq_true q236
                           have p237 : 0 ≤ ((ji25) : Int) := of_decide_eq_true (by first | (with_reducible assumption) | assumption)
                           have q237 : (ji25) < (t223.length : Int) := of_decide_eq_true (by first | (with_reducible assumption) | assumption)
                           obtain ⟨ad237, e237, hx237_0⟩ := Kd.at_int (Kd.R_reads' HO_4.out).2.2 (ji25) p237 q237
                           obtain rfl : ad236 = ad237 := (by injection e237)
                           replace p237 := eq_true p237
                           replace q237 := eq_true q237
                           have p238 : 0 ≤ (x6_1 : Int) := of_decide_eq_true (by first | (with_reducible assumption) | assumption)
                           have q238 : x6_1 < (t223.length : Int) := of_decide_eq_true (by first | (with_reducible assumption) | assumption)
                           obtain ⟨ad238, e238, hx238_0⟩ := Kd.at_int (Kd.R_reads' HO_4.out).2.2 x6_1 p238 q238
                           obtain rfl : ad236 = ad238 := (by injection e238)
                           replace p238 := eq_true p238
                           replace q238 := eq_true q238
                           have p245 : 0 ≤ (x6_1 : Int) := of_decide_eq_true (by first | (with_reducible assumption) | assumption)
                           have q245 : x6_1 < (t227.length : Int) := of_decide_eq_true (by first | (with_reducible assumption) | assumption)
                           obtain ⟨ad245, e245, hx245_0⟩ := Kd.at_int (Kd.R_reads' HO_5.out).2.2 x6_1 p245 q245
                           obtain rfl : ad230 = ad245 := (by injection e245)
                           replace p245 := eq_true p245
                           replace q245 := eq_true q245
                           have p246 : 0 ≤ ((ji25) : Int) := of_decide_eq_true (by first | (with_reducible assumption) | assumption)
                           have q246 : (ji25) < (t227.length : Int) := of_decide_eq_true (by first | (with_reducible assumption) | assumption)
                           obtain ⟨ad246, e246, hx246_0⟩ := Kd.at_int (Kd.R_reads' HO_5.out).2.2 (ji25) p246 q246
                           obtain rfl : ad230 = ad246 := (by injection e246)
                           replace p246 := eq_true p246
                           replace q246 := eq_true q246
                           have p247 : 0 ≤ ((ji49) : Int) := of_decide_eq_true (by first | (with_reducible assumption) | assumption)
                           have q247 : (ji49) < (t227.length : Int) := of_decide_eq_true (by first | (with_reducible assumption) | assumption)
                           obtain ⟨ad247, e247, hx247_0⟩ := Kd.at_int (Kd.R_reads' HO_5.out).2.2 (ji49) p247 q247
                           obtain rfl : ad230 = ad247 := (by injection e247)
                           replace p247 := eq_true p247
                           replace q247 := eq_true q247
                           have p248 : 0 ≤ ((ji25) : Int) := of_decide_eq_true (by first | (with_reducible assumption) | assumption)
                           have q248 : (ji25) < (t227.length : Int) := of_decide_eq_true (by first | (with_reducible assumption) | assumption)
                           obtain ⟨ad248, e248, hx248_0⟩ := Kd.at_int (Kd.R_reads' HO_5.out).2.2 (ji25) p248 q248
                           obtain rfl : ad230 = ad248 := (by injection e248)
                           replace p248 := eq_true p248
                           replace q248 := eq_true q248
                           have p249 : 0 ≤ ((ji49) : Int) := of_decide_eq_true (by first | (with_reducible assumption) | assumption)
                           have q249 : (ji49) < (t227.length : Int) := of_decide_eq_true (by first | (with_reducible assumption) | assumption)
                           obtain ⟨ad249, e249, hx249_0⟩ := Kd.at_int (Kd.R_reads' HO_5.out).2.2 (ji49) p249 q249
                           obtain rfl : ad230 = ad249 := (by injection e249)
                           replace p249 := eq_true p249
                           replace q249 := eq_true q249
                           go_wp2
                           repeat (go_quiet (fail); try go_wp2)
                           go_roundg k1
                           case measure => have := HK1.out; omega
                           case rel => exact ⟨(ji49), (by first | rfl | (simp; done) | (simp only [← hji49] <;> (first | rfl | simp)) | (simp [*]; done)), H', ⟨by have := HK1.out; omega⟩, ⟨by (with_reducible repeat (first | apply Kd.R_alloc | apply Kd.R_drewN | apply Kd.R_drew)); exact HO_4.out⟩, ⟨by (with_reducible repeat (first | apply Kd.R_alloc | apply Kd.R_drewN | apply Kd.R_drew)); exact HO_5.out⟩, ⟨by (with_reducible repeat (first | refine blk_drewN ?_ _ | refine blk_drew ?_ | refine blk_alloc ?_ _)); exact BK226.out⟩, ⟨by repeat (first | (with_reducible first | exact HB.out | apply below_alloc | apply pw_below_drewN | apply below_drew1 | refine below_set ?_ GE226.out) | exact HB.out)⟩⟩
                         ·rw [if_neg c54] at H
                          have c54b0 : decide ((wrap64 ((rd t227 x6_1) + 1)) ≤ (wrap64 ((rd t227 (ji25)) + t220))) = false := decide_eq_false c54
                          clear c54
                          have H' := Aside0.mk H
                          clear H
                          have hcz57_0 : wr.cell? ⟨gb226, 0, none⟩ = some (.int .i64 t220) := (blk_cell BK226.out 0).trans rfl
                          have hcz57_1 : wr.cell? ⟨gb226, 1, none⟩ = some (.int .i64 t221) := (blk_cell BK226.out 1).trans rfl
                          have hcz57_2 : wr.cell? ⟨gb226, 2, none⟩ = some (.int .i64 t222) := (blk_cell BK226.out 2).trans rfl
                          have hfz57_0 := blk_frozen BK226.out 0
                          have hfz57_1 := blk_frozen BK226.out 1
                          have hfz57_2 := blk_frozen BK226.out 2
                          have p236 : 0 ≤ ((ji25) : Int) := of_decide_eq_true (by first | (with_reducible assumption) | assumption)
                          have q236 : (ji25) < (t223.length : Int) := of_decide_eq_true (by first | (with_reducible assumption) | assumption)
                          obtain ⟨ad236, e236, hx236_0⟩ := Kd.at_int (Kd.R_reads' HO_4.out).2.2 (ji25) p236 q236
                          cases e236
                          replace p236 := eq_true p236
                          replace q236 := eq_true q236
                          have p237 : 0 ≤ ((ji25) : Int) := of_decide_eq_true (by first | (with_reducible assumption) | assumption)
                          have q237 : (ji25) < (t223.length : Int) := of_decide_eq_true (by first | (with_reducible assumption) | assumption)
                          obtain ⟨ad237, e237, hx237_0⟩ := Kd.at_int (Kd.R_reads' HO_4.out).2.2 (ji25) p237 q237
                          obtain rfl : ad236 = ad237 := (by injection e237)
                          replace p237 := eq_true p237
                          replace q237 := eq_true q237
                          have p238 : 0 ≤ (x6_1 : Int) := of_decide_eq_true (by first | (with_reducible assumption) | assumption)
                          have q238 : x6_1 < (t223.length : Int) := of_decide_eq_true (by first | (with_reducible assumption) | assumption)
                          obtain ⟨ad238, e238, hx238_0⟩ := Kd.at_int (Kd.R_reads' HO_4.out).2.2 x6_1 p238 q238
                          obtain rfl : ad236 = ad238 := (by injection e238)
                          replace p238 := eq_true p238
                          replace q238 := eq_true q238
                          have p245 : 0 ≤ (x6_1 : Int) := of_decide_eq_true (by first | (with_reducible assumption) | assumption)
                          have q245 : x6_1 < (t227.length : Int) := of_decide_eq_true (by first | (with_reducible assumption) | assumption)
                          obtain ⟨ad245, e245, hx245_0⟩ := Kd.at_int (Kd.R_reads' HO_5.out).2.2 x6_1 p245 q245
                          obtain rfl : ad230 = ad245 := (by injection e245)
                          replace p245 := eq_true p245
                          replace q245 := eq_true q245
                          have p246 : 0 ≤ ((ji25) : Int) := of_decide_eq_true (by first | (with_reducible assumption) | assumption)
                          have q246 : (ji25) < (t227.length : Int) := of_decide_eq_true (by first | (with_reducible assumption) | assumption)
                          obtain ⟨ad246, e246, hx246_0⟩ := Kd.at_int (Kd.R_reads' HO_5.out).2.2 (ji25) p246 q246
                          obtain rfl : ad230 = ad246 := (by injection e246)
                          replace p246 := eq_true p246
                          replace q246 := eq_true q246
                          have p247 : 0 ≤ ((ji49) : Int) := of_decide_eq_true (by first | (with_reducible assumption) | assumption)
                          have q247 : (ji49) < (t227.length : Int) := of_decide_eq_true (by first | (with_reducible assumption) | assumption)
                          obtain ⟨ad247, e247, hx247_0⟩ := Kd.at_int (Kd.R_reads' HO_5.out).2.2 (ji49) p247 q247
                          obtain rfl : ad230 = ad247 := (by injection e247)
                          replace p247 := eq_true p247
                          replace q247 := eq_true q247
                          have p248 : 0 ≤ ((ji25) : Int) := of_decide_eq_true (by first | (with_reducible assumption) | assumption)
                          have q248 : (ji25) < (t227.length : Int) := of_decide_eq_true (by first | (with_reducible assumption) | assumption)
                          obtain ⟨ad248, e248, hx248_0⟩ := Kd.at_int (Kd.R_reads' HO_5.out).2.2 (ji25) p248 q248
                          obtain rfl : ad230 = ad248 := (by injection e248)
                          replace p248 := eq_true p248
                          replace q248 := eq_true q248
                          go_wp2
                          repeat (go_quiet (fail); try go_wp2)
                          go_roundg k1
                          case measure => have := HK1.out; omega
                          case rel => exact ⟨(ji49), (by first | rfl | (simp; done) | (simp only [← hji49] <;> (first | rfl | simp)) | (simp [*]; done)), H', ⟨by have := HK1.out; omega⟩, ⟨by (with_reducible repeat (first | apply Kd.R_alloc | apply Kd.R_drewN | apply Kd.R_drew)); exact HO_4.out⟩, ⟨by (with_reducible repeat (first | apply Kd.R_alloc | apply Kd.R_drewN | apply Kd.R_drew)); exact HO_5.out⟩, ⟨by (with_reducible repeat (first | refine blk_drewN ?_ _ | refine blk_drew ?_ | refine blk_alloc ?_ _)); exact BK226.out⟩, ⟨by repeat (first | (with_reducible first | exact HB.out | apply below_alloc | apply pw_below_drewN | apply below_drew1 | refine below_set ?_ GE226.out) | exact HB.out)⟩⟩
                        ·rw [if_neg c53] at H
                         have c53b0 : decide ((wrap64 ((rd t227 x6_1) + 1)) ≤ (wrap64 ((rd t223 (ji25)) * (rd t223 (ji25))))) = false := decide_eq_false c53
                         clear c53
                         have H' := Aside0.mk H
                         clear H
                         have hcz58_0 : wr.cell? ⟨gb226, 0, none⟩ = some (.int .i64 t220) := (blk_cell BK226.out 0).trans rfl
                         have hcz58_1 : wr.cell? ⟨gb226, 1, none⟩ = some (.int .i64 t221) := (blk_cell BK226.out 1).trans rfl
                         have hcz58_2 : wr.cell? ⟨gb226, 2, none⟩ = some (.int .i64 t222) := (blk_cell BK226.out 2).trans rfl
                         have hfz58_0 := blk_frozen BK226.out 0
                         have hfz58_1 := blk_frozen BK226.out 1
                         have hfz58_2 := blk_frozen BK226.out 2
                         have p236 : 0 ≤ ((ji25) : Int) := of_decide_eq_true (by first | (with_reducible assumption) | assumption)
                         have q236 : (ji25) < (t223.length : Int) := of_decide_eq_true (by first | (with_reducible assumption) | assumption)
                         obtain ⟨ad236, e236, hx236_0⟩ := Kd.at_int (Kd.R_reads' HO_4.out).2.2 (ji25) p236 q236
                         cases e236
                         replace p236 := eq_true p236
                         replace q236 := eq_true q236
                         have p237 : 0 ≤ ((ji25) : Int) := of_decide_eq_true (by first | (with_reducible assumption) | assumption)
                         have q237 : (ji25) < (t223.length : Int) := of_decide_eq_true (by first | (with_reducible assumption) | assumption)
                         obtain ⟨ad237, e237, hx237_0⟩ := Kd.at_int (Kd.R_reads' HO_4.out).2.2 (ji25) p237 q237
                         obtain rfl : ad236 = ad237 := (by injection e237)
                         replace p237 := eq_true p237
                         replace q237 := eq_true q237
                         have p238 : 0 ≤ (x6_1 : Int) := of_decide_eq_true (by first | (with_reducible assumption) | assumption)
                         have q238 : x6_1 < (t223.length : Int) := of_decide_eq_true (by first | (with_reducible assumption) | assumption)
                         obtain ⟨ad238, e238, hx238_0⟩ := Kd.at_int (Kd.R_reads' HO_4.out).2.2 x6_1 p238 q238
                         obtain rfl : ad236 = ad238 := (by injection e238)
                         replace p238 := eq_true p238
                         replace q238 := eq_true q238
                         have p245 : 0 ≤ (x6_1 : Int) := of_decide_eq_true (by first | (with_reducible assumption) | assumption)
                         have q245 : x6_1 < (t227.length : Int) := of_decide_eq_true (by first | (with_reducible assumption) | assumption)
                         obtain ⟨ad245, e245, hx245_0⟩ := Kd.at_int (Kd.R_reads' HO_5.out).2.2 x6_1 p245 q245
                         obtain rfl : ad230 = ad245 := (by injection e245)
                         replace p245 := eq_true p245
                         replace q245 := eq_true q245
                         have p246 : 0 ≤ ((ji25) : Int) := of_decide_eq_true (by first | (with_reducible assumption) | assumption)
                         have q246 : (ji25) < (t227.length : Int) := of_decide_eq_true (by first | (with_reducible assumption) | assumption)
                         obtain ⟨ad246, e246, hx246_0⟩ := Kd.at_int (Kd.R_reads' HO_5.out).2.2 (ji25) p246 q246
                         obtain rfl : ad230 = ad246 := (by injection e246)
                         replace p246 := eq_true p246
                         replace q246 := eq_true q246
                         have p247 : 0 ≤ ((ji49) : Int) := of_decide_eq_true (by first | (with_reducible assumption) | assumption)
                         have q247 : (ji49) < (t227.length : Int) := of_decide_eq_true (by first | (with_reducible assumption) | assumption)
                         obtain ⟨ad247, e247, hx247_0⟩ := Kd.at_int (Kd.R_reads' HO_5.out).2.2 (ji49) p247 q247
                         obtain rfl : ad230 = ad247 := (by injection e247)
                         replace p247 := eq_true p247
                         replace q247 := eq_true q247
                         go_wp2
                         repeat (go_quiet (fail); try go_wp2)
                         go_roundg k1
                         case measure => have := HK1.out; omega
                         case rel => exact ⟨(ji49), (by first | rfl | (simp; done) | (simp only [← hji49] <;> (first | rfl | simp)) | (simp [*]; done)), H', ⟨by have := HK1.out; omega⟩, ⟨by (with_reducible repeat (first | apply Kd.R_alloc | apply Kd.R_drewN | apply Kd.R_drew)); exact HO_4.out⟩, ⟨by (with_reducible repeat (first | apply Kd.R_alloc | apply Kd.R_drewN | apply Kd.R_drew)); exact HO_5.out⟩, ⟨by (with_reducible repeat (first | refine blk_drewN ?_ _ | refine blk_drew ?_ | refine blk_alloc ?_ _)); exact BK226.out⟩, ⟨by repeat (first | (with_reducible first | exact HB.out | apply below_alloc | apply pw_below_drewN | apply below_drew1 | refine below_set ?_ GE226.out) | exact HB.out)⟩⟩
                      ·rw [if_neg c51] at H
                       exact absurd H (by simp)
                     ·rw [if_neg c50] at H
                      exact absurd H (by simp)
                   ·rw [if_neg c47] at H
                    exact absurd H (by simp)
                 ·rw [if_neg c45] at H
                  exact absurd H (by simp)
               ·rw [if_neg c29] at H
                exact absurd H (by simp)
              ·rw [if_neg c28] at H
               have c28b0 : decide ((rd t223 (ji25)) < t222) = false := decide_eq_false c28
               clear c28
               by_cases c59 : 0 ≤ x6_1
               ·rw [if_pos c59] at H
                have c59b0 : decide (0 ≤ x6_1) = true := decide_eq_true c59
                clear c59
                by_cases c60 : (rd t223 x6_1) < t222
                ·rw [if_pos c60] at H
                 have c60b0 : decide ((rd t223 x6_1) < t222) = true := decide_eq_true c60
                 clear c60
                 by_cases c61 : x6_1 < (t227.length : Int)
                 ·rw [if_pos c61] at H
                  have c61b0 : decide (x6_1 < (t227.length : Int)) = true := decide_eq_true c61
                  clear c61
                  by_cases c62 : (rd t227 x6_1) > (wrap64 ((rd t223 x6_1) * (rd t223 x6_1)))
                  ·rw [if_pos c62] at H
                   have c62b0 : decide ((wrap64 ((rd t223 x6_1) * (rd t223 x6_1))) < (rd t227 x6_1)) = true := decide_eq_true c62
                   clear c62
                   exact absurd (Option.some.inj H) (by decide)
                  ·rw [if_neg c62] at H
                   have c62b0 : decide ((wrap64 ((rd t223 x6_1) * (rd t223 x6_1))) < (rd t227 x6_1)) = false := decide_eq_false c62
                   clear c62
                   by_cases c63 : (ji25) < (t227.length : Int)
                   ·rw [if_pos c63] at H
                    have c63b0 : decide ((ji25) < (t227.length : Int)) = true := decide_eq_true c63
                    clear c63
                    by_cases c64 : (rd t227 x6_1) > (wrap64 ((rd t227 (ji25)) + t220))
                    ·rw [if_pos c64] at H
                     have c64b0 : decide ((wrap64 ((rd t227 (ji25)) + t220)) < (rd t227 x6_1)) = true := decide_eq_true c64
                     clear c64
                     exact absurd (Option.some.inj H) (by decide)
                    ·rw [if_neg c64] at H
                     have c64b0 : decide ((wrap64 ((rd t227 (ji25)) + t220)) < (rd t227 x6_1)) = false := decide_eq_false c64
                     clear c64
                     obtain ⟨ji65, hji65⟩ : ∃ j_ : Int, (wrap64 (x6_1 + 1)) = j_ := ⟨_, rfl⟩
                     replace H : (if 0 ≤ (ji65) then (if (ji65) < (t227.length : Int) then (if (rd t227 x6_1) > (wrap64 ((rd t227 (ji65)) + t221)) then (some false) else (if (wrap64 ((rd t227 x6_1) + 1)) ≤ (wrap64 ((rd t223 x6_1) * (rd t223 x6_1))) then (if (wrap64 ((rd t227 x6_1) + 1)) ≤ (wrap64 ((rd t227 (ji25)) + t220)) then (if (wrap64 ((rd t227 x6_1) + 1)) ≤ (wrap64 ((rd t227 (ji65)) + t221)) then (some false) else (laws_FnSquares.l0 k1 t223 t227 ji65 t220 t221 t222)) else (laws_FnSquares.l0 k1 t223 t227 ji65 t220 t221 t222)) else (laws_FnSquares.l0 k1 t223 t227 ji65 t220 t221 t222))) else (none)) else (none)) = some true := by first | (rw [hji65] at H; exact H) | (simp only [hji65] at H ⊢; exact H)
                     have hji65w : (IntKind.i64.wrap (x6_1 + 1)) = ji65 := (i64_w _).trans hji65
                     by_cases c66 : 0 ≤ (ji65)
                     ·rw [if_pos c66] at H
                      have c66b0 : decide (0 ≤ (ji65)) = true := decide_eq_true c66
                      clear c66
                      by_cases c67 : (ji65) < (t227.length : Int)
                      ·rw [if_pos c67] at H
                       have c67b0 : decide ((ji65) < (t227.length : Int)) = true := decide_eq_true c67
                       clear c67
                       by_cases c68 : (rd t227 x6_1) > (wrap64 ((rd t227 (ji65)) + t221))
                       ·rw [if_pos c68] at H
                        have c68b0 : decide ((wrap64 ((rd t227 (ji65)) + t221)) < (rd t227 x6_1)) = true := decide_eq_true c68
                        clear c68
                        exact absurd (Option.some.inj H) (by decide)
                       ·rw [if_neg c68] at H
                        have c68b0 : decide ((wrap64 ((rd t227 (ji65)) + t221)) < (rd t227 x6_1)) = false := decide_eq_false c68
                        clear c68
                        by_cases c69 : (wrap64 ((rd t227 x6_1) + 1)) ≤ (wrap64 ((rd t223 x6_1) * (rd t223 x6_1)))
                        ·rw [if_pos c69] at H
                         have c69b0 : decide ((wrap64 ((rd t227 x6_1) + 1)) ≤ (wrap64 ((rd t223 x6_1) * (rd t223 x6_1)))) = true := decide_eq_true c69
                         clear c69
                         by_cases c70 : (wrap64 ((rd t227 x6_1) + 1)) ≤ (wrap64 ((rd t227 (ji25)) + t220))
                         ·rw [if_pos c70] at H
                          have c70b0 : decide ((wrap64 ((rd t227 x6_1) + 1)) ≤ (wrap64 ((rd t227 (ji25)) + t220))) = true := decide_eq_true c70
                          clear c70
                          by_cases c71 : (wrap64 ((rd t227 x6_1) + 1)) ≤ (wrap64 ((rd t227 (ji65)) + t221))
                          ·rw [if_pos c71] at H
                           have c71b0 : decide ((wrap64 ((rd t227 x6_1) + 1)) ≤ (wrap64 ((rd t227 (ji65)) + t221))) = true := decide_eq_true c71
                           clear c71
                           exact absurd (Option.some.inj H) (by decide)
                          ·rw [if_neg c71] at H
                           have c71b0 : decide ((wrap64 ((rd t227 x6_1) + 1)) ≤ (wrap64 ((rd t227 (ji65)) + t221))) = false := decide_eq_false c71
                           clear c71
                           have H' := Aside0.mk H
                           clear H
                           have hcz72_0 : wr.cell? ⟨gb226, 0, none⟩ = some (.int .i64 t220) := (blk_cell BK226.out 0).trans rfl
                           have hcz72_1 : wr.cell? ⟨gb226, 1, none⟩ = some (.int .i64 t221) := (blk_cell BK226.out 1).trans rfl
                           have hcz72_2 : wr.cell? ⟨gb226, 2, none⟩ = some (.int .i64 t222) := (blk_cell BK226.out 2).trans rfl
                           have hfz72_0 := blk_frozen BK226.out 0
                           have hfz72_1 := blk_frozen BK226.out 1
                           have hfz72_2 := blk_frozen BK226.out 2
                           have p236 : 0 ≤ ((ji25) : Int) := of_decide_eq_true (by first | (with_reducible assumption) | assumption)
                           have q236 : (ji25) < (t223.length : Int) := of_decide_eq_true (by first | (with_reducible assumption) | assumption)
                           obtain ⟨ad236, e236, hx236_0⟩ := Kd.at_int (Kd.R_reads' HO_4.out).2.2 (ji25) p236 q236
                           cases e236
                           replace p236 := eq_true p236
                           replace q236 := eq_true q236
                           have p250 : 0 ≤ (x6_1 : Int) := of_decide_eq_true (by first | (with_reducible assumption) | assumption)
                           have q250 : x6_1 < (t223.length : Int) := of_decide_eq_true (by first | (with_reducible assumption) | assumption)
                           obtain ⟨ad250, e250, hx250_0⟩ := Kd.at_int (Kd.R_reads' HO_4.out).2.2 x6_1 p250 q250
                           obtain rfl : ad236 = ad250 := (by injection e250)
                           replace p250 := eq_true p250
                           replace q250 := eq_true q250
                           have p251 : 0 ≤ (x6_1 : Int) := of_decide_eq_true (by first | (with_reducible assumption) | assumption)
                           have q251 : x6_1 < (t223.length : Int) := of_decide_eq_true (by first | (with_reducible assumption) | assumption)
                           obtain ⟨ad251, e251, hx251_0⟩ := Kd.at_int (Kd.R_reads' HO_4.out).2.2 x6_1 p251 q251
                           obtain rfl : ad236 = ad251 := (by injection e251)
                           replace p251 := eq_true p251
                           replace q251 := eq_true q251
                           have p252 : 0 ≤ (x6_1 : Int) := of_decide_eq_true (by first | (with_reducible assumption) | assumption)
                           have q252 : x6_1 < (t227.length : Int) := of_decide_eq_true (by first | (with_reducible assumption) | assumption)
                           obtain ⟨ad252, e252, hx252_0⟩ := Kd.at_int (Kd.R_reads' HO_5.out).2.2 x6_1 p252 q252
                           obtain rfl : ad230 = ad252 := (by injection e252)
                           replace p252 := eq_true p252
                           replace q252 := eq_true q252
                           have p253 : 0 ≤ ((ji25) : Int) := of_decide_eq_true (by first | (with_reducible assumption) | assumption)
                           have q253 : (ji25) < (t227.length : Int) := of_decide_eq_true (by first | (with_reducible assumption) | assumption)
                           obtain ⟨ad253, e253, hx253_0⟩ := Kd.at_int (Kd.R_reads' HO_5.out).2.2 (ji25) p253 q253
                           obtain rfl : ad230 = ad253 := (by injection e253)
                           replace p253 := eq_true p253
                           replace q253 := eq_true q253
                           have p254 : 0 ≤ ((ji65) : Int) := of_decide_eq_true (by first | (with_reducible assumption) | assumption)
                           have q254 : (ji65) < (t227.length : Int) := of_decide_eq_true (by first | (with_reducible assumption) | assumption)
                           obtain ⟨ad254, e254, hx254_0⟩ := Kd.at_int (Kd.R_reads' HO_5.out).2.2 (ji65) p254 q254
                           obtain rfl : ad230 = ad254 := (by injection e254)
                           replace p254 := eq_true p254
                           replace q254 := eq_true q254
                           have p255 : 0 ≤ ((ji25) : Int) := of_decide_eq_true (by first | (with_reducible assumption) | assumption)
                           have q255 : (ji25) < (t227.length : Int) := of_decide_eq_true (by first | (with_reducible assumption) | assumption)
                           obtain ⟨ad255, e255, hx255_0⟩ := Kd.at_int (Kd.R_reads' HO_5.out).2.2 (ji25) p255 q255
                           obtain rfl : ad230 = ad255 := (by injection e255)
                           replace p255 := eq_true p255
                           replace q255 := eq_true q255
                           have p256 : 0 ≤ ((ji65) : Int) := of_decide_eq_true (by first | (with_reducible assumption) | assumption)
                           have q256 : (ji65) < (t227.length : Int) := of_decide_eq_true (by first | (with_reducible assumption) | assumption)
                           obtain ⟨ad256, e256, hx256_0⟩ := Kd.at_int (Kd.R_reads' HO_5.out).2.2 (ji65) p256 q256
                           obtain rfl : ad230 = ad256 := (by injection e256)
                           replace p256 := eq_true p256
                           replace q256 := eq_true q256
                           go_wp2
                           repeat (go_quiet (fail); try go_wp2)
                           go_roundg k1
                           case measure => have := HK1.out; omega
                           case rel => exact ⟨(ji65), (by first | rfl | (simp; done) | (simp only [← hji65] <;> (first | rfl | simp)) | (simp [*]; done)), H', ⟨by have := HK1.out; omega⟩, ⟨by (with_reducible repeat (first | apply Kd.R_alloc | apply Kd.R_drewN | apply Kd.R_drew)); exact HO_4.out⟩, ⟨by (with_reducible repeat (first | apply Kd.R_alloc | apply Kd.R_drewN | apply Kd.R_drew)); exact HO_5.out⟩, ⟨by (with_reducible repeat (first | refine blk_drewN ?_ _ | refine blk_drew ?_ | refine blk_alloc ?_ _)); exact BK226.out⟩, ⟨by repeat (first | (with_reducible first | exact HB.out | apply below_alloc | apply pw_below_drewN | apply below_drew1 | refine below_set ?_ GE226.out) | exact HB.out)⟩⟩
                         ·rw [if_neg c70] at H
                          have c70b0 : decide ((wrap64 ((rd t227 x6_1) + 1)) ≤ (wrap64 ((rd t227 (ji25)) + t220))) = false := decide_eq_false c70
                          clear c70
                          have H' := Aside0.mk H
                          clear H
                          have hcz73_0 : wr.cell? ⟨gb226, 0, none⟩ = some (.int .i64 t220) := (blk_cell BK226.out 0).trans rfl
                          have hcz73_1 : wr.cell? ⟨gb226, 1, none⟩ = some (.int .i64 t221) := (blk_cell BK226.out 1).trans rfl
                          have hcz73_2 : wr.cell? ⟨gb226, 2, none⟩ = some (.int .i64 t222) := (blk_cell BK226.out 2).trans rfl
                          have hfz73_0 := blk_frozen BK226.out 0
                          have hfz73_1 := blk_frozen BK226.out 1
                          have hfz73_2 := blk_frozen BK226.out 2
                          have p236 : 0 ≤ ((ji25) : Int) := of_decide_eq_true (by first | (with_reducible assumption) | assumption)
                          have q236 : (ji25) < (t223.length : Int) := of_decide_eq_true (by first | (with_reducible assumption) | assumption)
                          obtain ⟨ad236, e236, hx236_0⟩ := Kd.at_int (Kd.R_reads' HO_4.out).2.2 (ji25) p236 q236
                          cases e236
                          replace p236 := eq_true p236
                          replace q236 := eq_true q236
                          have p250 : 0 ≤ (x6_1 : Int) := of_decide_eq_true (by first | (with_reducible assumption) | assumption)
                          have q250 : x6_1 < (t223.length : Int) := of_decide_eq_true (by first | (with_reducible assumption) | assumption)
                          obtain ⟨ad250, e250, hx250_0⟩ := Kd.at_int (Kd.R_reads' HO_4.out).2.2 x6_1 p250 q250
                          obtain rfl : ad236 = ad250 := (by injection e250)
                          replace p250 := eq_true p250
                          replace q250 := eq_true q250
                          have p251 : 0 ≤ (x6_1 : Int) := of_decide_eq_true (by first | (with_reducible assumption) | assumption)
                          have q251 : x6_1 < (t223.length : Int) := of_decide_eq_true (by first | (with_reducible assumption) | assumption)
                          obtain ⟨ad251, e251, hx251_0⟩ := Kd.at_int (Kd.R_reads' HO_4.out).2.2 x6_1 p251 q251
                          obtain rfl : ad236 = ad251 := (by injection e251)
                          replace p251 := eq_true p251
                          replace q251 := eq_true q251
                          have p252 : 0 ≤ (x6_1 : Int) := of_decide_eq_true (by first | (with_reducible assumption) | assumption)
                          have q252 : x6_1 < (t227.length : Int) := of_decide_eq_true (by first | (with_reducible assumption) | assumption)
                          obtain ⟨ad252, e252, hx252_0⟩ := Kd.at_int (Kd.R_reads' HO_5.out).2.2 x6_1 p252 q252
                          obtain rfl : ad230 = ad252 := (by injection e252)
                          replace p252 := eq_true p252
                          replace q252 := eq_true q252
                          have p253 : 0 ≤ ((ji25) : Int) := of_decide_eq_true (by first | (with_reducible assumption) | assumption)
                          have q253 : (ji25) < (t227.length : Int) := of_decide_eq_true (by first | (with_reducible assumption) | assumption)
                          obtain ⟨ad253, e253, hx253_0⟩ := Kd.at_int (Kd.R_reads' HO_5.out).2.2 (ji25) p253 q253
                          obtain rfl : ad230 = ad253 := (by injection e253)
                          replace p253 := eq_true p253
                          replace q253 := eq_true q253
                          have p254 : 0 ≤ ((ji65) : Int) := of_decide_eq_true (by first | (with_reducible assumption) | assumption)
                          have q254 : (ji65) < (t227.length : Int) := of_decide_eq_true (by first | (with_reducible assumption) | assumption)
                          obtain ⟨ad254, e254, hx254_0⟩ := Kd.at_int (Kd.R_reads' HO_5.out).2.2 (ji65) p254 q254
                          obtain rfl : ad230 = ad254 := (by injection e254)
                          replace p254 := eq_true p254
                          replace q254 := eq_true q254
                          have p255 : 0 ≤ ((ji25) : Int) := of_decide_eq_true (by first | (with_reducible assumption) | assumption)
                          have q255 : (ji25) < (t227.length : Int) := of_decide_eq_true (by first | (with_reducible assumption) | assumption)
                          obtain ⟨ad255, e255, hx255_0⟩ := Kd.at_int (Kd.R_reads' HO_5.out).2.2 (ji25) p255 q255
                          obtain rfl : ad230 = ad255 := (by injection e255)
                          replace p255 := eq_true p255
                          replace q255 := eq_true q255
                          go_wp2
                          repeat (go_quiet (fail); try go_wp2)
                          go_roundg k1
                          case measure => have := HK1.out; omega
                          case rel => exact ⟨(ji65), (by first | rfl | (simp; done) | (simp only [← hji65] <;> (first | rfl | simp)) | (simp [*]; done)), H', ⟨by have := HK1.out; omega⟩, ⟨by (with_reducible repeat (first | apply Kd.R_alloc | apply Kd.R_drewN | apply Kd.R_drew)); exact HO_4.out⟩, ⟨by (with_reducible repeat (first | apply Kd.R_alloc | apply Kd.R_drewN | apply Kd.R_drew)); exact HO_5.out⟩, ⟨by (with_reducible repeat (first | refine blk_drewN ?_ _ | refine blk_drew ?_ | refine blk_alloc ?_ _)); exact BK226.out⟩, ⟨by repeat (first | (with_reducible first | exact HB.out | apply below_alloc | apply pw_below_drewN | apply below_drew1 | refine below_set ?_ GE226.out) | exact HB.out)⟩⟩
                        ·rw [if_neg c69] at H
                         have c69b0 : decide ((wrap64 ((rd t227 x6_1) + 1)) ≤ (wrap64 ((rd t223 x6_1) * (rd t223 x6_1)))) = false := decide_eq_false c69
                         clear c69
                         have H' := Aside0.mk H
                         clear H
                         have hcz74_0 : wr.cell? ⟨gb226, 0, none⟩ = some (.int .i64 t220) := (blk_cell BK226.out 0).trans rfl
                         have hcz74_1 : wr.cell? ⟨gb226, 1, none⟩ = some (.int .i64 t221) := (blk_cell BK226.out 1).trans rfl
                         have hcz74_2 : wr.cell? ⟨gb226, 2, none⟩ = some (.int .i64 t222) := (blk_cell BK226.out 2).trans rfl
                         have hfz74_0 := blk_frozen BK226.out 0
                         have hfz74_1 := blk_frozen BK226.out 1
                         have hfz74_2 := blk_frozen BK226.out 2
                         have p236 : 0 ≤ ((ji25) : Int) := of_decide_eq_true (by first | (with_reducible assumption) | assumption)
                         have q236 : (ji25) < (t223.length : Int) := of_decide_eq_true (by first | (with_reducible assumption) | assumption)
                         obtain ⟨ad236, e236, hx236_0⟩ := Kd.at_int (Kd.R_reads' HO_4.out).2.2 (ji25) p236 q236
                         cases e236
                         replace p236 := eq_true p236
                         replace q236 := eq_true q236
                         have p250 : 0 ≤ (x6_1 : Int) := of_decide_eq_true (by first | (with_reducible assumption) | assumption)
                         have q250 : x6_1 < (t223.length : Int) := of_decide_eq_true (by first | (with_reducible assumption) | assumption)
                         obtain ⟨ad250, e250, hx250_0⟩ := Kd.at_int (Kd.R_reads' HO_4.out).2.2 x6_1 p250 q250
                         obtain rfl : ad236 = ad250 := (by injection e250)
                         replace p250 := eq_true p250
                         replace q250 := eq_true q250
                         have p251 : 0 ≤ (x6_1 : Int) := of_decide_eq_true (by first | (with_reducible assumption) | assumption)
                         have q251 : x6_1 < (t223.length : Int) := of_decide_eq_true (by first | (with_reducible assumption) | assumption)
                         obtain ⟨ad251, e251, hx251_0⟩ := Kd.at_int (Kd.R_reads' HO_4.out).2.2 x6_1 p251 q251
                         obtain rfl : ad236 = ad251 := (by injection e251)
                         replace p251 := eq_true p251
                         replace q251 := eq_true q251
                         have p252 : 0 ≤ (x6_1 : Int) := of_decide_eq_true (by first | (with_reducible assumption) | assumption)
                         have q252 : x6_1 < (t227.length : Int) := of_decide_eq_true (by first | (with_reducible assumption) | assumption)
                         obtain ⟨ad252, e252, hx252_0⟩ := Kd.at_int (Kd.R_reads' HO_5.out).2.2 x6_1 p252 q252
                         obtain rfl : ad230 = ad252 := (by injection e252)
                         replace p252 := eq_true p252
                         replace q252 := eq_true q252
                         have p253 : 0 ≤ ((ji25) : Int) := of_decide_eq_true (by first | (with_reducible assumption) | assumption)
                         have q253 : (ji25) < (t227.length : Int) := of_decide_eq_true (by first | (with_reducible assumption) | assumption)
                         obtain ⟨ad253, e253, hx253_0⟩ := Kd.at_int (Kd.R_reads' HO_5.out).2.2 (ji25) p253 q253
                         obtain rfl : ad230 = ad253 := (by injection e253)
                         replace p253 := eq_true p253
                         replace q253 := eq_true q253
                         have p254 : 0 ≤ ((ji65) : Int) := of_decide_eq_true (by first | (with_reducible assumption) | assumption)
                         have q254 : (ji65) < (t227.length : Int) := of_decide_eq_true (by first | (with_reducible assumption) | assumption)
                         obtain ⟨ad254, e254, hx254_0⟩ := Kd.at_int (Kd.R_reads' HO_5.out).2.2 (ji65) p254 q254
                         obtain rfl : ad230 = ad254 := (by injection e254)
                         replace p254 := eq_true p254
                         replace q254 := eq_true q254
                         go_wp2
                         repeat (go_quiet (fail); try go_wp2)
                         go_roundg k1
                         case measure => have := HK1.out; omega
                         case rel => exact ⟨(ji65), (by first | rfl | (simp; done) | (simp only [← hji65] <;> (first | rfl | simp)) | (simp [*]; done)), H', ⟨by have := HK1.out; omega⟩, ⟨by (with_reducible repeat (first | apply Kd.R_alloc | apply Kd.R_drewN | apply Kd.R_drew)); exact HO_4.out⟩, ⟨by (with_reducible repeat (first | apply Kd.R_alloc | apply Kd.R_drewN | apply Kd.R_drew)); exact HO_5.out⟩, ⟨by (with_reducible repeat (first | refine blk_drewN ?_ _ | refine blk_drew ?_ | refine blk_alloc ?_ _)); exact BK226.out⟩, ⟨by repeat (first | (with_reducible first | exact HB.out | apply below_alloc | apply pw_below_drewN | apply below_drew1 | refine below_set ?_ GE226.out) | exact HB.out)⟩⟩
                      ·rw [if_neg c67] at H
                       exact absurd H (by simp)
                     ·rw [if_neg c66] at H
                      exact absurd H (by simp)
                   ·rw [if_neg c63] at H
                    exact absurd H (by simp)
                 ·rw [if_neg c61] at H
                  exact absurd H (by simp)
                ·rw [if_neg c60] at H
                 have c60b0 : decide ((rd t223 x6_1) < t222) = false := decide_eq_false c60
                 clear c60
                 by_cases c75 : x6_1 < (t227.length : Int)
                 ·rw [if_pos c75] at H
                  have c75b0 : decide (x6_1 < (t227.length : Int)) = true := decide_eq_true c75
                  clear c75
                  by_cases c76 : (rd t227 x6_1) > (wrap64 (t222 * t222))
                  ·rw [if_pos c76] at H
                   have c76b0 : decide ((wrap64 (t222 * t222)) < (rd t227 x6_1)) = true := decide_eq_true c76
                   clear c76
                   exact absurd (Option.some.inj H) (by decide)
                  ·rw [if_neg c76] at H
                   have c76b0 : decide ((wrap64 (t222 * t222)) < (rd t227 x6_1)) = false := decide_eq_false c76
                   clear c76
                   by_cases c77 : (ji25) < (t227.length : Int)
                   ·rw [if_pos c77] at H
                    have c77b0 : decide ((ji25) < (t227.length : Int)) = true := decide_eq_true c77
                    clear c77
                    by_cases c78 : (rd t227 x6_1) > (wrap64 ((rd t227 (ji25)) + t220))
                    ·rw [if_pos c78] at H
                     have c78b0 : decide ((wrap64 ((rd t227 (ji25)) + t220)) < (rd t227 x6_1)) = true := decide_eq_true c78
                     clear c78
                     exact absurd (Option.some.inj H) (by decide)
                    ·rw [if_neg c78] at H
                     have c78b0 : decide ((wrap64 ((rd t227 (ji25)) + t220)) < (rd t227 x6_1)) = false := decide_eq_false c78
                     clear c78
                     obtain ⟨ji79, hji79⟩ : ∃ j_ : Int, (wrap64 (x6_1 + 1)) = j_ := ⟨_, rfl⟩
                     replace H : (if 0 ≤ (ji79) then (if (ji79) < (t227.length : Int) then (if (rd t227 x6_1) > (wrap64 ((rd t227 (ji79)) + t221)) then (some false) else (if (wrap64 ((rd t227 x6_1) + 1)) ≤ (wrap64 (t222 * t222)) then (if (wrap64 ((rd t227 x6_1) + 1)) ≤ (wrap64 ((rd t227 (ji25)) + t220)) then (if (wrap64 ((rd t227 x6_1) + 1)) ≤ (wrap64 ((rd t227 (ji79)) + t221)) then (some false) else (laws_FnSquares.l0 k1 t223 t227 ji79 t220 t221 t222)) else (laws_FnSquares.l0 k1 t223 t227 ji79 t220 t221 t222)) else (laws_FnSquares.l0 k1 t223 t227 ji79 t220 t221 t222))) else (none)) else (none)) = some true := by first | (rw [hji79] at H; exact H) | (simp only [hji79] at H ⊢; exact H)
                     have hji79w : (IntKind.i64.wrap (x6_1 + 1)) = ji79 := (i64_w _).trans hji79
                     by_cases c80 : 0 ≤ (ji79)
                     ·rw [if_pos c80] at H
                      have c80b0 : decide (0 ≤ (ji79)) = true := decide_eq_true c80
                      clear c80
                      by_cases c81 : (ji79) < (t227.length : Int)
                      ·rw [if_pos c81] at H
                       have c81b0 : decide ((ji79) < (t227.length : Int)) = true := decide_eq_true c81
                       clear c81
                       by_cases c82 : (rd t227 x6_1) > (wrap64 ((rd t227 (ji79)) + t221))
                       ·rw [if_pos c82] at H
                        have c82b0 : decide ((wrap64 ((rd t227 (ji79)) + t221)) < (rd t227 x6_1)) = true := decide_eq_true c82
                        clear c82
                        exact absurd (Option.some.inj H) (by decide)
                       ·rw [if_neg c82] at H
                        have c82b0 : decide ((wrap64 ((rd t227 (ji79)) + t221)) < (rd t227 x6_1)) = false := decide_eq_false c82
                        clear c82
                        by_cases c83 : (wrap64 ((rd t227 x6_1) + 1)) ≤ (wrap64 (t222 * t222))
                        ·rw [if_pos c83] at H
                         have c83b0 : decide ((wrap64 ((rd t227 x6_1) + 1)) ≤ (wrap64 (t222 * t222))) = true := decide_eq_true c83
                         clear c83
                         by_cases c84 : (wrap64 ((rd t227 x6_1) + 1)) ≤ (wrap64 ((rd t227 (ji25)) + t220))
                         ·rw [if_pos c84] at H
                          have c84b0 : decide ((wrap64 ((rd t227 x6_1) + 1)) ≤ (wrap64 ((rd t227 (ji25)) + t220))) = true := decide_eq_true c84
                          clear c84
                          by_cases c85 : (wrap64 ((rd t227 x6_1) + 1)) ≤ (wrap64 ((rd t227 (ji79)) + t221))
                          ·rw [if_pos c85] at H
                           have c85b0 : decide ((wrap64 ((rd t227 x6_1) + 1)) ≤ (wrap64 ((rd t227 (ji79)) + t221))) = true := decide_eq_true c85
                           clear c85
                           exact absurd (Option.some.inj H) (by decide)
                          ·rw [if_neg c85] at H
                           have c85b0 : decide ((wrap64 ((rd t227 x6_1) + 1)) ≤ (wrap64 ((rd t227 (ji79)) + t221))) = false := decide_eq_false c85
                           clear c85
                           have H' := Aside0.mk H
                           clear H
                           have hcz86_0 : wr.cell? ⟨gb226, 0, none⟩ = some (.int .i64 t220) := (blk_cell BK226.out 0).trans rfl
                           have hcz86_1 : wr.cell? ⟨gb226, 1, none⟩ = some (.int .i64 t221) := (blk_cell BK226.out 1).trans rfl
                           have hcz86_2 : wr.cell? ⟨gb226, 2, none⟩ = some (.int .i64 t222) := (blk_cell BK226.out 2).trans rfl
                           have hfz86_0 := blk_frozen BK226.out 0
                           have hfz86_1 := blk_frozen BK226.out 1
                           have hfz86_2 := blk_frozen BK226.out 2
                           have p236 : 0 ≤ ((ji25) : Int) := of_decide_eq_true (by first | (with_reducible assumption) | assumption)
                           have q236 : (ji25) < (t223.length : Int) := of_decide_eq_true (by first | (with_reducible assumption) | assumption)
                           obtain ⟨ad236, e236, hx236_0⟩ := Kd.at_int (Kd.R_reads' HO_4.out).2.2 (ji25) p236 q236
                           cases e236
                           replace p236 := eq_true p236
                           replace q236 := eq_true q236
                           have p250 : 0 ≤ (x6_1 : Int) := of_decide_eq_true (by first | (with_reducible assumption) | assumption)
                           have q250 : x6_1 < (t223.length : Int) := of_decide_eq_true (by first | (with_reducible assumption) | assumption)
                           obtain ⟨ad250, e250, hx250_0⟩ := Kd.at_int (Kd.R_reads' HO_4.out).2.2 x6_1 p250 q250
                           obtain rfl : ad236 = ad250 := (by injection e250)
                           replace p250 := eq_true p250
                           replace q250 := eq_true q250
                           have p257 : 0 ≤ (x6_1 : Int) := of_decide_eq_true (by first | (with_reducible assumption) | assumption)
                           have q257 : x6_1 < (t227.length : Int) := of_decide_eq_true (by first | (with_reducible assumption) | assumption)
                           obtain ⟨ad257, e257, hx257_0⟩ := Kd.at_int (Kd.R_reads' HO_5.out).2.2 x6_1 p257 q257
                           obtain rfl : ad230 = ad257 := (by injection e257)
                           replace p257 := eq_true p257
                           replace q257 := eq_true q257
                           have p258 : 0 ≤ ((ji25) : Int) := of_decide_eq_true (by first | (with_reducible assumption) | assumption)
                           have q258 : (ji25) < (t227.length : Int) := of_decide_eq_true (by first | (with_reducible assumption) | assumption)
                           obtain ⟨ad258, e258, hx258_0⟩ := Kd.at_int (Kd.R_reads' HO_5.out).2.2 (ji25) p258 q258
                           obtain rfl : ad230 = ad258 := (by injection e258)
                           replace p258 := eq_true p258
                           replace q258 := eq_true q258
                           have p259 : 0 ≤ ((ji79) : Int) := of_decide_eq_true (by first | (with_reducible assumption) | assumption)
                           have q259 : (ji79) < (t227.length : Int) := of_decide_eq_true (by first | (with_reducible assumption) | assumption)
                           obtain ⟨ad259, e259, hx259_0⟩ := Kd.at_int (Kd.R_reads' HO_5.out).2.2 (ji79) p259 q259
                           obtain rfl : ad230 = ad259 := (by injection e259)
                           replace p259 := eq_true p259
                           replace q259 := eq_true q259
                           have p260 : 0 ≤ ((ji25) : Int) := of_decide_eq_true (by first | (with_reducible assumption) | assumption)
                           have q260 : (ji25) < (t227.length : Int) := of_decide_eq_true (by first | (with_reducible assumption) | assumption)
                           obtain ⟨ad260, e260, hx260_0⟩ := Kd.at_int (Kd.R_reads' HO_5.out).2.2 (ji25) p260 q260
                           obtain rfl : ad230 = ad260 := (by injection e260)
                           replace p260 := eq_true p260
                           replace q260 := eq_true q260
                           have p261 : 0 ≤ ((ji79) : Int) := of_decide_eq_true (by first | (with_reducible assumption) | assumption)
                           have q261 : (ji79) < (t227.length : Int) := of_decide_eq_true (by first | (with_reducible assumption) | assumption)
                           obtain ⟨ad261, e261, hx261_0⟩ := Kd.at_int (Kd.R_reads' HO_5.out).2.2 (ji79) p261 q261
                           obtain rfl : ad230 = ad261 := (by injection e261)
                           replace p261 := eq_true p261
                           replace q261 := eq_true q261
                           go_wp2
                           repeat (go_quiet (fail); try go_wp2)
                           go_roundg k1
                           case measure => have := HK1.out; omega
                           case rel => exact ⟨(ji79), (by first | rfl | (simp; done) | (simp only [← hji79] <;> (first | rfl | simp)) | (simp [*]; done)), H', ⟨by have := HK1.out; omega⟩, ⟨by (with_reducible repeat (first | apply Kd.R_alloc | apply Kd.R_drewN | apply Kd.R_drew)); exact HO_4.out⟩, ⟨by (with_reducible repeat (first | apply Kd.R_alloc | apply Kd.R_drewN | apply Kd.R_drew)); exact HO_5.out⟩, ⟨by (with_reducible repeat (first | refine blk_drewN ?_ _ | refine blk_drew ?_ | refine blk_alloc ?_ _)); exact BK226.out⟩, ⟨by repeat (first | (with_reducible first | exact HB.out | apply below_alloc | apply pw_below_drewN | apply below_drew1 | refine below_set ?_ GE226.out) | exact HB.out)⟩⟩
                         ·rw [if_neg c84] at H
                          have c84b0 : decide ((wrap64 ((rd t227 x6_1) + 1)) ≤ (wrap64 ((rd t227 (ji25)) + t220))) = false := decide_eq_false c84
                          clear c84
                          have H' := Aside0.mk H
                          clear H
                          have hcz87_0 : wr.cell? ⟨gb226, 0, none⟩ = some (.int .i64 t220) := (blk_cell BK226.out 0).trans rfl
                          have hcz87_1 : wr.cell? ⟨gb226, 1, none⟩ = some (.int .i64 t221) := (blk_cell BK226.out 1).trans rfl
                          have hcz87_2 : wr.cell? ⟨gb226, 2, none⟩ = some (.int .i64 t222) := (blk_cell BK226.out 2).trans rfl
                          have hfz87_0 := blk_frozen BK226.out 0
                          have hfz87_1 := blk_frozen BK226.out 1
                          have hfz87_2 := blk_frozen BK226.out 2
                          have p236 : 0 ≤ ((ji25) : Int) := of_decide_eq_true (by first | (with_reducible assumption) | assumption)
                          have q236 : (ji25) < (t223.length : Int) := of_decide_eq_true (by first | (with_reducible assumption) | assumption)
                          obtain ⟨ad236, e236, hx236_0⟩ := Kd.at_int (Kd.R_reads' HO_4.out).2.2 (ji25) p236 q236
                          cases e236
                          replace p236 := eq_true p236
                          replace q236 := eq_true q236
                          have p250 : 0 ≤ (x6_1 : Int) := of_decide_eq_true (by first | (with_reducible assumption) | assumption)
                          have q250 : x6_1 < (t223.length : Int) := of_decide_eq_true (by first | (with_reducible assumption) | assumption)
                          obtain ⟨ad250, e250, hx250_0⟩ := Kd.at_int (Kd.R_reads' HO_4.out).2.2 x6_1 p250 q250
                          obtain rfl : ad236 = ad250 := (by injection e250)
                          replace p250 := eq_true p250
                          replace q250 := eq_true q250
                          have p257 : 0 ≤ (x6_1 : Int) := of_decide_eq_true (by first | (with_reducible assumption) | assumption)
                          have q257 : x6_1 < (t227.length : Int) := of_decide_eq_true (by first | (with_reducible assumption) | assumption)
                          obtain ⟨ad257, e257, hx257_0⟩ := Kd.at_int (Kd.R_reads' HO_5.out).2.2 x6_1 p257 q257
                          obtain rfl : ad230 = ad257 := (by injection e257)
                          replace p257 := eq_true p257
                          replace q257 := eq_true q257
                          have p258 : 0 ≤ ((ji25) : Int) := of_decide_eq_true (by first | (with_reducible assumption) | assumption)
                          have q258 : (ji25) < (t227.length : Int) := of_decide_eq_true (by first | (with_reducible assumption) | assumption)
                          obtain ⟨ad258, e258, hx258_0⟩ := Kd.at_int (Kd.R_reads' HO_5.out).2.2 (ji25) p258 q258
                          obtain rfl : ad230 = ad258 := (by injection e258)
                          replace p258 := eq_true p258
                          replace q258 := eq_true q258
                          have p259 : 0 ≤ ((ji79) : Int) := of_decide_eq_true (by first | (with_reducible assumption) | assumption)
                          have q259 : (ji79) < (t227.length : Int) := of_decide_eq_true (by first | (with_reducible assumption) | assumption)
                          obtain ⟨ad259, e259, hx259_0⟩ := Kd.at_int (Kd.R_reads' HO_5.out).2.2 (ji79) p259 q259
                          obtain rfl : ad230 = ad259 := (by injection e259)
                          replace p259 := eq_true p259
                          replace q259 := eq_true q259
                          have p260 : 0 ≤ ((ji25) : Int) := of_decide_eq_true (by first | (with_reducible assumption) | assumption)
                          have q260 : (ji25) < (t227.length : Int) := of_decide_eq_true (by first | (with_reducible assumption) | assumption)
                          obtain ⟨ad260, e260, hx260_0⟩ := Kd.at_int (Kd.R_reads' HO_5.out).2.2 (ji25) p260 q260
                          obtain rfl : ad230 = ad260 := (by injection e260)
                          replace p260 := eq_true p260
                          replace q260 := eq_true q260
                          go_wp2
                          repeat (go_quiet (fail); try go_wp2)
                          go_roundg k1
                          case measure => have := HK1.out; omega
                          case rel => exact ⟨(ji79), (by first | rfl | (simp; done) | (simp only [← hji79] <;> (first | rfl | simp)) | (simp [*]; done)), H', ⟨by have := HK1.out; omega⟩, ⟨by (with_reducible repeat (first | apply Kd.R_alloc | apply Kd.R_drewN | apply Kd.R_drew)); exact HO_4.out⟩, ⟨by (with_reducible repeat (first | apply Kd.R_alloc | apply Kd.R_drewN | apply Kd.R_drew)); exact HO_5.out⟩, ⟨by (with_reducible repeat (first | refine blk_drewN ?_ _ | refine blk_drew ?_ | refine blk_alloc ?_ _)); exact BK226.out⟩, ⟨by repeat (first | (with_reducible first | exact HB.out | apply below_alloc | apply pw_below_drewN | apply below_drew1 | refine below_set ?_ GE226.out) | exact HB.out)⟩⟩
                        ·rw [if_neg c83] at H
                         have c83b0 : decide ((wrap64 ((rd t227 x6_1) + 1)) ≤ (wrap64 (t222 * t222))) = false := decide_eq_false c83
                         clear c83
                         have H' := Aside0.mk H
                         clear H
                         have hcz88_0 : wr.cell? ⟨gb226, 0, none⟩ = some (.int .i64 t220) := (blk_cell BK226.out 0).trans rfl
                         have hcz88_1 : wr.cell? ⟨gb226, 1, none⟩ = some (.int .i64 t221) := (blk_cell BK226.out 1).trans rfl
                         have hcz88_2 : wr.cell? ⟨gb226, 2, none⟩ = some (.int .i64 t222) := (blk_cell BK226.out 2).trans rfl
                         have hfz88_0 := blk_frozen BK226.out 0
                         have hfz88_1 := blk_frozen BK226.out 1
                         have hfz88_2 := blk_frozen BK226.out 2
                         have p236 : 0 ≤ ((ji25) : Int) := of_decide_eq_true (by first | (with_reducible assumption) | assumption)
                         have q236 : (ji25) < (t223.length : Int) := of_decide_eq_true (by first | (with_reducible assumption) | assumption)
                         obtain ⟨ad236, e236, hx236_0⟩ := Kd.at_int (Kd.R_reads' HO_4.out).2.2 (ji25) p236 q236
                         cases e236
                         replace p236 := eq_true p236
                         replace q236 := eq_true q236
                         have p250 : 0 ≤ (x6_1 : Int) := of_decide_eq_true (by first | (with_reducible assumption) | assumption)
                         have q250 : x6_1 < (t223.length : Int) := of_decide_eq_true (by first | (with_reducible assumption) | assumption)
                         obtain ⟨ad250, e250, hx250_0⟩ := Kd.at_int (Kd.R_reads' HO_4.out).2.2 x6_1 p250 q250
                         obtain rfl : ad236 = ad250 := (by injection e250)
                         replace p250 := eq_true p250
                         replace q250 := eq_true q250
                         have p257 : 0 ≤ (x6_1 : Int) := of_decide_eq_true (by first | (with_reducible assumption) | assumption)
                         have q257 : x6_1 < (t227.length : Int) := of_decide_eq_true (by first | (with_reducible assumption) | assumption)
                         obtain ⟨ad257, e257, hx257_0⟩ := Kd.at_int (Kd.R_reads' HO_5.out).2.2 x6_1 p257 q257
                         obtain rfl : ad230 = ad257 := (by injection e257)
                         replace p257 := eq_true p257
                         replace q257 := eq_true q257
                         have p258 : 0 ≤ ((ji25) : Int) := of_decide_eq_true (by first | (with_reducible assumption) | assumption)
                         have q258 : (ji25) < (t227.length : Int) := of_decide_eq_true (by first | (with_reducible assumption) | assumption)
                         obtain ⟨ad258, e258, hx258_0⟩ := Kd.at_int (Kd.R_reads' HO_5.out).2.2 (ji25) p258 q258
                         obtain rfl : ad230 = ad258 := (by injection e258)
                         replace p258 := eq_true p258
                         replace q258 := eq_true q258
                         have p259 : 0 ≤ ((ji79) : Int) := of_decide_eq_true (by first | (with_reducible assumption) | assumption)
                         have q259 : (ji79) < (t227.length : Int) := of_decide_eq_true (by first | (with_reducible assumption) | assumption)
                         obtain ⟨ad259, e259, hx259_0⟩ := Kd.at_int (Kd.R_reads' HO_5.out).2.2 (ji79) p259 q259
                         obtain rfl : ad230 = ad259 := (by injection e259)
                         replace p259 := eq_true p259
                         replace q259 := eq_true q259
                         go_wp2
                         repeat (go_quiet (fail); try go_wp2)
                         go_roundg k1
                         case measure => have := HK1.out; omega
                         case rel => exact ⟨(ji79), (by first | rfl | (simp; done) | (simp only [← hji79] <;> (first | rfl | simp)) | (simp [*]; done)), H', ⟨by have := HK1.out; omega⟩, ⟨by (with_reducible repeat (first | apply Kd.R_alloc | apply Kd.R_drewN | apply Kd.R_drew)); exact HO_4.out⟩, ⟨by (with_reducible repeat (first | apply Kd.R_alloc | apply Kd.R_drewN | apply Kd.R_drew)); exact HO_5.out⟩, ⟨by (with_reducible repeat (first | refine blk_drewN ?_ _ | refine blk_drew ?_ | refine blk_alloc ?_ _)); exact BK226.out⟩, ⟨by repeat (first | (with_reducible first | exact HB.out | apply below_alloc | apply pw_below_drewN | apply below_drew1 | refine below_set ?_ GE226.out) | exact HB.out)⟩⟩
                      ·rw [if_neg c81] at H
                       exact absurd H (by simp)
                     ·rw [if_neg c80] at H
                      exact absurd H (by simp)
                   ·rw [if_neg c77] at H
                    exact absurd H (by simp)
                 ·rw [if_neg c75] at H
                  exact absurd H (by simp)
               ·rw [if_neg c59] at H
                exact absurd H (by simp)
             ·rw [if_neg c27] at H
              exact absurd H (by simp)
            ·rw [if_neg c26] at H
             exact absurd H (by simp)
           ·rw [if_neg c24] at H
            have c24b0 : decide (x6_1 < (t223.length : Int)) = false := decide_eq_false c24
            clear c24
            clear H
            go_wp2
            repeat (go_quiet (fail); try go_wp2)
            go_ret
            exact ⟨by first | rfl | (simp [errW_none, errW_some] <;> rfl) | (simp [*, errW_none, errW_some] <;> rfl), by repeat (first | (with_reducible first | exact HB.out | apply below_alloc | apply pw_below_drewN | apply below_drew1 | refine below_set ?_ GE226.out) | exact HB.out)⟩
        ·replace c14 := Bool.eq_false_iff.mpr c14
         subst c14
         have H1 : (some false) = some true := by (first | (rw [if_neg (show ¬ (false = true) by decide)] at H; exact H) | rfl)
         clear H
         have H := H1
         clear H1
         exact absurd (Option.some.inj H) (by decide)
       ·rw [if_neg c11] at H
        have c11b0 : ((rd t227 (t223.length : Int)) == 0) = false := beq_eq_false_iff_ne.mpr c11
        have c11b1 : ((rd t227 (t223.length : Int)) != 0) = true := bne_iff_ne.mpr c11
        exact absurd (Option.some.inj H) (by decide)
      ·rw [if_neg c10] at H
       exact absurd H (by simp)
     ·rw [if_neg c9] at H
      exact absurd H (by simp)
    ·rw [if_neg c8] at H
     have c8b0 : ((rd t227 0) == 0) = false := beq_eq_false_iff_ne.mpr c8
     have c8b1 : ((rd t227 0) != 0) = true := bne_iff_ne.mpr c8
     exact absurd (Option.some.inj H) (by decide)
   ·rw [if_neg c7] at H
    exact absurd H (by simp)
  ·rw [if_neg c6] at H
   have c6b0 : ((t227.length : Int) == (wrap64 ((t223.length : Int) + 1))) = false := beq_eq_false_iff_ne.mpr c6
   have c6b1 : ((t227.length : Int) != (wrap64 ((t223.length : Int) + 1))) = true := bne_iff_ne.mpr c6
   exact absurd (Option.some.inj H) (by decide)

/-- THE ONE PURE STATEMENT of laws_FnSquares: yours. -/
def laws_FnSquares.Pure : Prop := ∀ (l0 : List Int), l0.length ≤ maxLen → l0.length * 1 ≤ 140737488351232 → (∀ x ∈ l0, (Lit.int .u8 x).wf = true) → ∃ k, laws_FnSquares.f k l0 = some true
theorem laws_FnSquares.walk (P : laws_FnSquares.Pure) (a0 : Option Addr) (len0 cap0 : Nat) (z0 : List Int) (w : World) (w0 : (a0 = none ∧ len0 = 0 ∧ cap0 = 0 ∧ z0 = []) ∨ ∃ x, a0 = some x ∧ len0 ≤ cap0 ∧ cap0 ≤ maxLen ∧ z0.length = cap0 ∧ (∀ i, i < z0.length → w.cell? (x.add i) = some (.int .u8 (z0.getD i 0))) ∧ ∀ n ∈ z0, (Lit.int .u8 n).wf = true) (y0 : len0 * 1 ≤ 140737488351232) :
  Calls Try.prog 6 #[.slice a0 len0 cap0] w fun e w' => e = .returned (.bool true) ∧ Below w.heap.size w w' := by
 obtain ⟨l0, rfl, hr0, hm0, hw0, hc0⟩ := ReadsInt.ofRowC w0
 obtain ⟨k, h⟩ := P l0 hm0 y0 hw0
 refine (laws_FnSquares.calls k _ _ l0 w (Kd.C_of_reads (d := (0 : Int)) (h1 := fun _ => rfl) hr0) hc0 h).mono ?_
 rintro e w' ⟨rfl, hd⟩
 exact ⟨rfl, hd⟩

end Go.Proofs.Ytcamdgdkpfkdfaa.PFnSquares
