-- Written by a program of this session (wip/tools/fltprint.py: the kit's printer, taught more).
import Derived.Test.YtgjhlkjfdlkndaaDoorPFnTimesx0
import Derived.Test.YtgjhlkjfdlkndaaDoorPFnTimesx1
namespace Go.Proofs.YtgjhlkjfdlkndaaDoor.PFnTimes
open Go.RowKit Go.Proofs.YtgjhlkjfdlkndaaDoorW.PrintWords Go.Proofs.YtgjhlkjfdlkndaaDoorW.PrintLast Go.Proofs.YtgjhlkjfdlkndaaDoorW.PrintMore
attribute [local go_sem] max2_int min2_int max_two min_two max_three min_three max_four min_four   -- for this text's walks alone
set_option linter.unusedVariables false
set_option linter.unusedSimpArgs false

/-! ### laws_FnTimes: function 4 -/
def laws_FnTimes.j0 : Nat → Bool → Option (Bool)
 | 0, _ => none
 | k + 1, x40 => if x40 = true then (some false) else ((impl_TimeText.f 100000).bind fun t120 => ((impl_ReadTime.f k t120).bind fun t121 => (if t121 = 100000 then ((impl_TimeText.f 100001).bind fun t122 => (if t122.toList = ([] : List UInt8) then ((impl_ReadTime.f k (⟨#[]⟩ : ByteArray)).bind fun t123 => (if t123 = (-1) then ((impl_TimeText.f 425).bind fun t124 => (some (t124.toList == ([48, 55, 58, 48, 53] : List UInt8)))) else (some false))) else (some false))) else (some false))))
def laws_FnTimes.f (k : Nat) (l0 : List Int) : Option (Bool) := (laws_big.f l0).bind fun t111 => (if t111 = true then (some true) else ((laws_at.f l0 0).bind fun t112 => ((laws_at.f l0 1).bind fun t113 => ((impl_TimeText.f (wrap64 ((wrap64 (t112 * 256)) + t113))).bind fun t114 => ((impl_ReadTime.f k t114).bind fun t115 => (if t115 = (wrap64 ((wrap64 (t112 * 256)) + t113)) then (if 1 + t114.size ≤ 9223372036854775807 then ((impl_ReadTime.f k ((⟨#[48]⟩ : ByteArray) ++ t114)).bind fun t116 => (if t116 = (-1) then ((impl_TimeText.f (wrap64 ((wrap64 ((wrap64 (t112 * 256)) + t113)) + 1))).bind fun t117 => ((impl_ReadTime.f k t117).bind fun t118 => (if t118 = (wrap64 ((wrap64 ((wrap64 (t112 * 256)) + t113)) + 1)) then ((impl_TimeText.f (wrap64 ((wrap64 ((wrap64 (t112 * 256)) + t113)) + 1))).bind fun t119 => (laws_FnTimes.j0 k (t119.toList == t114.toList))) else (laws_FnTimes.j0 k true)))) else (laws_FnTimes.j0 k true))) else (none)) else (laws_FnTimes.j0 k true)))))))
theorem laws_FnTimes.mono_l : ∀ k, (∀ y0, LeO (laws_FnTimes.j0 k y0) (laws_FnTimes.j0 (k + 1) y0))
 | 0 => fun _ r h => by simp [laws_FnTimes.j0] at h
 | k + 1 => by
  have ih0 := laws_FnTimes.mono_l k
  ·intro y0
   unfold laws_FnTimes.j0
   repeat' first
   | (with_reducible exact ih0 _)
   | (with_reducible exact impl_ReadTime.mono _ _)
   | (with_reducible exact LeO.refl _)
   | (with_reducible exact LeO.none _)
   | (with_reducible refine LeO.ite ?_ ?_)
   | (with_reducible refine LeO.bind ?_ (fun _ => ?_))
   | exact ih0 _
   | exact impl_ReadTime.mono _ _
   | exact LeO.none _
   | refine LeO.ite ?_ ?_
   | refine LeO.bind ?_ (fun _ => ?_)
theorem laws_FnTimes.mono : ∀ a0 k, LeO (laws_FnTimes.f k a0) (laws_FnTimes.f (k + 1) a0) := by
 intro a0 k
 have ih0 := laws_FnTimes.mono_l k
 unfold laws_FnTimes.f
 repeat' first
   | (with_reducible exact ih0 _)
   | (with_reducible exact impl_ReadTime.mono _ _)
   | (with_reducible exact LeO.refl _)
   | (with_reducible exact LeO.none _)
   | (with_reducible refine LeO.ite ?_ ?_)
   | (with_reducible refine LeO.bind ?_ (fun _ => ?_))
   | exact ih0 _
   | exact impl_ReadTime.mono _ _
   | exact LeO.none _
   | refine LeO.ite ?_ ?_
   | refine LeO.bind ?_ (fun _ => ?_)
set_option maxHeartbeats 8000000 in
set_option maxRecDepth 100000 in
theorem laws_FnTimes.calls (k : Nat) (A0 : Option Addr) (c0 : Nat) (l0 : List Int) (w : World) (hr0 : Kd.C (Kd.int .u8) w A0 l0.length l0) (hc0 : l0.length ≤ c0) (htab : Tab w) (h : laws_FnTimes.f k l0 = some true) :
  Calls Tryd.prog 4 #[.slice A0 l0.length c0] w fun e w' => e = .returned (.bool true) ∧ Below w.heap.size w w' := by
 have HR0 := Aside0.mk hr0
 have HC0 := Aside0.mk hc0
 clear hr0 hc0
 have HB := Aside0.mk (Below.refl w.heap.size w)
 have HT := Aside0.mk htab
 clear htab
 have H : ((laws_big.f l0).bind fun t111 => (if t111 = true then (some true) else ((laws_at.f l0 0).bind fun t112 => ((laws_at.f l0 1).bind fun t113 => ((impl_TimeText.f (wrap64 ((wrap64 (t112 * 256)) + t113))).bind fun t114 => ((impl_ReadTime.f k t114).bind fun t115 => (if t115 = (wrap64 ((wrap64 (t112 * 256)) + t113)) then (if 1 + t114.size ≤ 9223372036854775807 then ((impl_ReadTime.f k ((⟨#[48]⟩ : ByteArray) ++ t114)).bind fun t116 => (if t116 = (-1) then ((impl_TimeText.f (wrap64 ((wrap64 ((wrap64 (t112 * 256)) + t113)) + 1))).bind fun t117 => ((impl_ReadTime.f k t117).bind fun t118 => (if t118 = (wrap64 ((wrap64 ((wrap64 (t112 * 256)) + t113)) + 1)) then ((impl_TimeText.f (wrap64 ((wrap64 ((wrap64 (t112 * 256)) + t113)) + 1))).bind fun t119 => (laws_FnTimes.j0 k (t119.toList == t114.toList))) else (laws_FnTimes.j0 k true)))) else (laws_FnTimes.j0 k true))) else (none)) else (laws_FnTimes.j0 k true)))))))) = some true := h
 clear h
 replace H := Option.bind_eq_some_iff.mp H
 obtain ⟨t111, A20, H⟩ := H
 replace H : (if t111 = true then (some true) else ((laws_at.f l0 0).bind fun t112 => ((laws_at.f l0 1).bind fun t113 => ((impl_TimeText.f (wrap64 ((wrap64 (t112 * 256)) + t113))).bind fun t114 => ((impl_ReadTime.f k t114).bind fun t115 => (if t115 = (wrap64 ((wrap64 (t112 * 256)) + t113)) then (if 1 + t114.size ≤ 9223372036854775807 then ((impl_ReadTime.f k ((⟨#[48]⟩ : ByteArray) ++ t114)).bind fun t116 => (if t116 = (-1) then ((impl_TimeText.f (wrap64 ((wrap64 ((wrap64 (t112 * 256)) + t113)) + 1))).bind fun t117 => ((impl_ReadTime.f k t117).bind fun t118 => (if t118 = (wrap64 ((wrap64 ((wrap64 (t112 * 256)) + t113)) + 1)) then ((impl_TimeText.f (wrap64 ((wrap64 ((wrap64 (t112 * 256)) + t113)) + 1))).bind fun t119 => (laws_FnTimes.j0 k (t119.toList == t114.toList))) else (laws_FnTimes.j0 k true)))) else (laws_FnTimes.j0 k true))) else (none)) else (laws_FnTimes.j0 k true))))))) = some true := H
 have A2 := Aside0.mk A20
 clear A20
 by_cases c3 : t111 = true
 ·subst c3
  have H1 : (some true) = some true := by (first | (rw [if_pos rfl] at H; exact H) | rfl)
  clear H
  have H := H1
  clear H1
  clear H
  go_enter Tryd.func4, Tryd.ntmps4
  go_wp2_with (first | ((with_reducible refine gate_callee (f := 8) rfl ?_); refine goesL_ (some 6) rfl rfl Tryd.func8 (by kernel_rfl) rfl #[.slice A0 l0.length c0] rfl (by (try simp only [List.map_toArray, List.map_cons, List.map_nil]); first | done | rfl | (simp only [List.length_drop, List.length_take]; rfl)) ?_; (with_reducible refine (laws_big.calls _ _ l0 true _ ?side1 ?side2 A2.out).mono ?_); (case side1 => repeat (first | exact HR0.out | (with_reducible refine Kd.C_alloc ?_ _) | (with_reducible refine Kd.C_drewN ?_ _) | (with_reducible refine Kd.C_drew ?_))); (case side2 => exact HC0.out); rintro e w' ⟨rfl, ⟨nd, rfl⟩⟩; refine ⟨_, rfl, ?_⟩))
  all_goals (first | (exfalso; omega) | skip)
  go_ret
  exact ⟨by first | rfl | (simp [errW_none, errW_some] <;> rfl) | (simp [*, errW_none, errW_some] <;> rfl), by repeat (first | (with_reducible first | exact HB.out | apply below_alloc | apply pw_below_drewN | apply below_drew1) | exact HB.out)⟩
 ·replace c3 := Bool.eq_false_iff.mpr c3
  subst c3
  have H1 : ((laws_at.f l0 0).bind fun t112 => ((laws_at.f l0 1).bind fun t113 => ((impl_TimeText.f (wrap64 ((wrap64 (t112 * 256)) + t113))).bind fun t114 => ((impl_ReadTime.f k t114).bind fun t115 => (if t115 = (wrap64 ((wrap64 (t112 * 256)) + t113)) then (if 1 + t114.size ≤ 9223372036854775807 then ((impl_ReadTime.f k ((⟨#[48]⟩ : ByteArray) ++ t114)).bind fun t116 => (if t116 = (-1) then ((impl_TimeText.f (wrap64 ((wrap64 ((wrap64 (t112 * 256)) + t113)) + 1))).bind fun t117 => ((impl_ReadTime.f k t117).bind fun t118 => (if t118 = (wrap64 ((wrap64 ((wrap64 (t112 * 256)) + t113)) + 1)) then ((impl_TimeText.f (wrap64 ((wrap64 ((wrap64 (t112 * 256)) + t113)) + 1))).bind fun t119 => (laws_FnTimes.j0 k (t119.toList == t114.toList))) else (laws_FnTimes.j0 k true)))) else (laws_FnTimes.j0 k true))) else (none)) else (laws_FnTimes.j0 k true)))))) = some true := by (first | (rw [if_neg (show ¬ (false = true) by decide)] at H; exact H) | rfl)
  clear H
  have H := H1
  clear H1
  replace H := Option.bind_eq_some_iff.mp H
  obtain ⟨t112, A40, H⟩ := H
  replace H : ((laws_at.f l0 1).bind fun t113 => ((impl_TimeText.f (wrap64 ((wrap64 (t112 * 256)) + t113))).bind fun t114 => ((impl_ReadTime.f k t114).bind fun t115 => (if t115 = (wrap64 ((wrap64 (t112 * 256)) + t113)) then (if 1 + t114.size ≤ 9223372036854775807 then ((impl_ReadTime.f k ((⟨#[48]⟩ : ByteArray) ++ t114)).bind fun t116 => (if t116 = (-1) then ((impl_TimeText.f (wrap64 ((wrap64 ((wrap64 (t112 * 256)) + t113)) + 1))).bind fun t117 => ((impl_ReadTime.f k t117).bind fun t118 => (if t118 = (wrap64 ((wrap64 ((wrap64 (t112 * 256)) + t113)) + 1)) then ((impl_TimeText.f (wrap64 ((wrap64 ((wrap64 (t112 * 256)) + t113)) + 1))).bind fun t119 => (laws_FnTimes.j0 k (t119.toList == t114.toList))) else (laws_FnTimes.j0 k true)))) else (laws_FnTimes.j0 k true))) else (none)) else (laws_FnTimes.j0 k true))))) = some true := H
  have A4 := Aside0.mk A40
  clear A40
  replace H := Option.bind_eq_some_iff.mp H
  obtain ⟨t113, A50, H⟩ := H
  replace H : ((impl_TimeText.f (wrap64 ((wrap64 (t112 * 256)) + t113))).bind fun t114 => ((impl_ReadTime.f k t114).bind fun t115 => (if t115 = (wrap64 ((wrap64 (t112 * 256)) + t113)) then (if 1 + t114.size ≤ 9223372036854775807 then ((impl_ReadTime.f k ((⟨#[48]⟩ : ByteArray) ++ t114)).bind fun t116 => (if t116 = (-1) then ((impl_TimeText.f (wrap64 ((wrap64 ((wrap64 (t112 * 256)) + t113)) + 1))).bind fun t117 => ((impl_ReadTime.f k t117).bind fun t118 => (if t118 = (wrap64 ((wrap64 ((wrap64 (t112 * 256)) + t113)) + 1)) then ((impl_TimeText.f (wrap64 ((wrap64 ((wrap64 (t112 * 256)) + t113)) + 1))).bind fun t119 => (laws_FnTimes.j0 k (t119.toList == t114.toList))) else (laws_FnTimes.j0 k true)))) else (laws_FnTimes.j0 k true))) else (none)) else (laws_FnTimes.j0 k true)))) = some true := H
  have A5 := Aside0.mk A50
  clear A50
  replace H := Option.bind_eq_some_iff.mp H
  obtain ⟨t114, A60, H⟩ := H
  replace H : ((impl_ReadTime.f k t114).bind fun t115 => (if t115 = (wrap64 ((wrap64 (t112 * 256)) + t113)) then (if 1 + t114.size ≤ 9223372036854775807 then ((impl_ReadTime.f k ((⟨#[48]⟩ : ByteArray) ++ t114)).bind fun t116 => (if t116 = (-1) then ((impl_TimeText.f (wrap64 ((wrap64 ((wrap64 (t112 * 256)) + t113)) + 1))).bind fun t117 => ((impl_ReadTime.f k t117).bind fun t118 => (if t118 = (wrap64 ((wrap64 ((wrap64 (t112 * 256)) + t113)) + 1)) then ((impl_TimeText.f (wrap64 ((wrap64 ((wrap64 (t112 * 256)) + t113)) + 1))).bind fun t119 => (laws_FnTimes.j0 k (t119.toList == t114.toList))) else (laws_FnTimes.j0 k true)))) else (laws_FnTimes.j0 k true))) else (none)) else (laws_FnTimes.j0 k true))) = some true := H
  have A6 := Aside0.mk A60
  clear A60
  have HC7 := Aside0.mk H
  clear H
  go_enter Tryd.func4, Tryd.ntmps4
  go_upto_region 5 with (first | ((with_reducible refine gate_callee (f := 8) rfl ?_); refine goesL_ (some 6) rfl rfl Tryd.func8 (by kernel_rfl) rfl #[.slice A0 l0.length c0] rfl (by (try simp only [List.map_toArray, List.map_cons, List.map_nil]); first | done | rfl | (simp only [List.length_drop, List.length_take]; rfl)) ?_; (with_reducible refine (laws_big.calls _ _ l0 false _ ?side1 ?side2 A2.out).mono ?_); (case side1 => repeat (first | exact HR0.out | (with_reducible refine Kd.C_alloc ?_ _) | (with_reducible refine Kd.C_drewN ?_ _) | (with_reducible refine Kd.C_drew ?_))); (case side2 => exact HC0.out); rintro e w' ⟨rfl, ⟨nd, rfl⟩⟩; refine ⟨_, rfl, ?_⟩) | ((with_reducible refine gate_callee (f := 9) rfl ?_); refine goesL_ (some 8) rfl rfl Tryd.func9 (by kernel_rfl) rfl #[.slice A0 l0.length c0, .int .i64 0] rfl (by (try simp only [List.map_toArray, List.map_cons, List.map_nil]); first | done | rfl | (simp only [List.length_drop, List.length_take]; rfl)) ?_; (with_reducible refine (laws_at.calls _ _ l0 0 t112 _ ?side1 ?side2 A4.out).mono ?_); (case side1 => repeat (first | exact HR0.out | (with_reducible refine Kd.C_alloc ?_ _) | (with_reducible refine Kd.C_drewN ?_ _) | (with_reducible refine Kd.C_drew ?_))); (case side2 => exact HC0.out); rintro e w' ⟨rfl, ⟨nd, rfl⟩⟩; refine ⟨_, rfl, ?_⟩) | ((with_reducible refine gate_callee (f := 9) rfl ?_); refine goesL_ (some 11) rfl rfl Tryd.func9 (by kernel_rfl) rfl #[.slice A0 l0.length c0, .int .i64 1] rfl (by (try simp only [List.map_toArray, List.map_cons, List.map_nil]); first | done | rfl | (simp only [List.length_drop, List.length_take]; rfl)) ?_; (with_reducible refine (laws_at.calls _ _ l0 1 t113 _ ?side1 ?side2 A5.out).mono ?_); (case side1 => repeat (first | exact HR0.out | (with_reducible refine Kd.C_alloc ?_ _) | (with_reducible refine Kd.C_drewN ?_ _) | (with_reducible refine Kd.C_drew ?_))); (case side2 => exact HC0.out); rintro e w' ⟨rfl, ⟨nd, rfl⟩⟩; refine ⟨_, rfl, ?_⟩) | ((with_reducible refine gate_callee (f := 10) rfl ?_); refine goesL_ (some 14) rfl rfl Tryd.func10 (by kernel_rfl) rfl #[.int .i64 (wrap64 ((wrap64 (t112 * 256)) + t113))] rfl (by (try simp only [List.map_toArray, List.map_cons, List.map_nil]); first | done | rfl | (simp only [List.length_drop, List.length_take]; rfl)) ?_; (with_reducible refine (impl_TimeText.calls (wrap64 ((wrap64 (t112 * 256)) + t113)) t114 _ (tabB HT.out (by repeat (first | (with_reducible first | exact HB.out | apply below_alloc | apply pw_below_drewN | apply below_drew1) | exact HB.out))) A6.out).mono ?_); rintro e w8 ⟨rfl, hb⟩; refine ⟨_, rfl, ?_⟩; have n0_ := Aside0.mk (below_step (by repeat (first | (with_reducible first | exact HB.out | apply below_alloc | apply pw_below_drewN | apply below_drew1) | exact HB.out)) hb); clear HB; have HB := n0_; clear n0_; (try clear hb); (try clear hb2); (try clear hk); (try clear hi)))
  (try simp only [Act.put, List.setIfInBounds_toArray, List.set_cons_zero, List.set_cons_succ])
  go_cut [40] (fun v40 wc => ∃ (kq : Nat) (x40_6 : Bool), v40 = .bool x40_6 ∧ Aside0 (laws_FnTimes.j0 kq x40_6 = some true) ∧ Aside0 (kq ≤ k) ∧ Aside0 (Below w.heap.size w wc))
  case first =>
   have H := HC7.out
   clear HC7
   replace H := Option.bind_eq_some_iff.mp H
   obtain ⟨t115, A90, H⟩ := H
   replace H : (if t115 = (wrap64 ((wrap64 (t112 * 256)) + t113)) then (if 1 + t114.size ≤ 9223372036854775807 then ((impl_ReadTime.f k ((⟨#[48]⟩ : ByteArray) ++ t114)).bind fun t116 => (if t116 = (-1) then ((impl_TimeText.f (wrap64 ((wrap64 ((wrap64 (t112 * 256)) + t113)) + 1))).bind fun t117 => ((impl_ReadTime.f k t117).bind fun t118 => (if t118 = (wrap64 ((wrap64 ((wrap64 (t112 * 256)) + t113)) + 1)) then ((impl_TimeText.f (wrap64 ((wrap64 ((wrap64 (t112 * 256)) + t113)) + 1))).bind fun t119 => (laws_FnTimes.j0 k (t119.toList == t114.toList))) else (laws_FnTimes.j0 k true)))) else (laws_FnTimes.j0 k true))) else (none)) else (laws_FnTimes.j0 k true)) = some true := H
   have A9 := Aside0.mk A90
   clear A90
   by_cases c10 : t115 = (wrap64 ((wrap64 (t112 * 256)) + t113))
   ·rw [if_pos c10] at H
    have c10b0 : (t115 == (wrap64 ((wrap64 (t112 * 256)) + t113))) = true := beq_iff_eq.mpr c10
    have c10b1 : (t115 != (wrap64 ((wrap64 (t112 * 256)) + t113))) = false := bne_eq_false_iff_eq.mpr c10
    clear c10
    (first | rw [c10b0] | (simp only [i64_w, i32_w]; rw [c10b0]) | rw [c10b1] | skip)
    by_cases c11 : 1 + t114.size ≤ 9223372036854775807
    ·rw [if_pos c11] at H
     have c11b0 := eq_true c11
     have c11b1 : decide (1 + t114.size ≤ 9223372036854775807) = true := decide_eq_true c11
     try have c11b2 : (9223372036854775807 < 1 + t114.size) = False := eq_false (Nat.not_lt.2 c11)
     have c11n := c11
     try simp only [ByteArray.size_append, show (⟨#[48]⟩ : ByteArray).size = 1 from rfl, show (⟨#[58]⟩ : ByteArray).size = 1 from rfl, show (⟨#[45]⟩ : ByteArray).size = 1 from rfl] at c11n
     replace H := Option.bind_eq_some_iff.mp H
     obtain ⟨t116, A120, H⟩ := H
     replace H : (if t116 = (-1) then ((impl_TimeText.f (wrap64 ((wrap64 ((wrap64 (t112 * 256)) + t113)) + 1))).bind fun t117 => ((impl_ReadTime.f k t117).bind fun t118 => (if t118 = (wrap64 ((wrap64 ((wrap64 (t112 * 256)) + t113)) + 1)) then ((impl_TimeText.f (wrap64 ((wrap64 ((wrap64 (t112 * 256)) + t113)) + 1))).bind fun t119 => (laws_FnTimes.j0 k (t119.toList == t114.toList))) else (laws_FnTimes.j0 k true)))) else (laws_FnTimes.j0 k true)) = some true := H
     have A12 := Aside0.mk A120
     clear A120
     by_cases c13 : t116 = (-1)
     ·rw [if_pos c13] at H
      have c13b0 : (t116 == (-1)) = true := beq_iff_eq.mpr c13
      have c13b1 : (t116 != (-1)) = false := bne_eq_false_iff_eq.mpr c13
      clear c13
      replace H := Option.bind_eq_some_iff.mp H
      obtain ⟨t117, A140, H⟩ := H
      replace H : ((impl_ReadTime.f k t117).bind fun t118 => (if t118 = (wrap64 ((wrap64 ((wrap64 (t112 * 256)) + t113)) + 1)) then ((impl_TimeText.f (wrap64 ((wrap64 ((wrap64 (t112 * 256)) + t113)) + 1))).bind fun t119 => (laws_FnTimes.j0 k (t119.toList == t114.toList))) else (laws_FnTimes.j0 k true))) = some true := H
      have A14 := Aside0.mk A140
      clear A140
      replace H := Option.bind_eq_some_iff.mp H
      obtain ⟨t118, A150, H⟩ := H
      replace H : (if t118 = (wrap64 ((wrap64 ((wrap64 (t112 * 256)) + t113)) + 1)) then ((impl_TimeText.f (wrap64 ((wrap64 ((wrap64 (t112 * 256)) + t113)) + 1))).bind fun t119 => (laws_FnTimes.j0 k (t119.toList == t114.toList))) else (laws_FnTimes.j0 k true)) = some true := H
      have A15 := Aside0.mk A150
      clear A150
      by_cases c16 : t118 = (wrap64 ((wrap64 ((wrap64 (t112 * 256)) + t113)) + 1))
      ·rw [if_pos c16] at H
       have c16b0 : (t118 == (wrap64 ((wrap64 ((wrap64 (t112 * 256)) + t113)) + 1))) = true := beq_iff_eq.mpr c16
       have c16b1 : (t118 != (wrap64 ((wrap64 ((wrap64 (t112 * 256)) + t113)) + 1))) = false := bne_eq_false_iff_eq.mpr c16
       clear c16
       replace H := Option.bind_eq_some_iff.mp H
       obtain ⟨t119, A170, H⟩ := H
       replace H : (laws_FnTimes.j0 k (t119.toList == t114.toList)) = some true := H
       have A17 := Aside0.mk A170
       clear A170
       have H' := Aside0.mk H
       clear H
       go_wp2_with (first | ((with_reducible refine gate_callee (f := 7) rfl ?_); refine goesL_ (some 16) rfl rfl Tryd.func7 (by kernel_rfl) rfl #[.string t114] rfl (by (try simp only [List.map_toArray, List.map_cons, List.map_nil]); first | done | rfl | (simp only [List.length_drop, List.length_take]; rfl)) ?_; (with_reducible refine (impl_ReadTime.calls k t114 t115 _ (tabB HT.out (by repeat (first | (with_reducible first | exact HB.out | apply below_alloc | apply pw_below_drewN | apply below_drew1) | exact HB.out))) A9.out).mono ?_); rintro e w18 ⟨rfl, hb⟩; refine ⟨_, rfl, ?_⟩; have n0_ := Aside0.mk (below_step (by repeat (first | (with_reducible first | exact HB.out | apply below_alloc | apply pw_below_drewN | apply below_drew1) | exact HB.out)) hb); clear HB; have HB := n0_; clear n0_; (try clear hb); (try clear hb2); (try clear hk); (try clear hi)) | (go_at_call 7; (with_reducible refine (impl_ReadTime.calls k ((⟨#[48]⟩ : ByteArray) ++ t114) t116 _ (tabB HT.out (by repeat (first | (with_reducible first | exact HB.out | apply below_alloc | apply pw_below_drewN | apply below_drew1) | exact HB.out))) A12.out).mono ?_); rintro e w19 ⟨rfl, hb⟩; have n0_ := Aside0.mk (below_step (by repeat (first | (with_reducible first | exact HB.out | apply below_alloc | apply pw_below_drewN | apply below_drew1) | exact HB.out)) hb); clear HB; have HB := n0_; clear n0_; (try clear hb); (try clear hb2); (try clear hk); (try clear hi)) | (go_at_call 10; (with_reducible refine (impl_TimeText.calls (wrap64 ((wrap64 ((wrap64 (t112 * 256)) + t113)) + 1)) t117 _ (tabB HT.out (by repeat (first | (with_reducible first | exact HB.out | apply below_alloc | apply pw_below_drewN | apply below_drew1) | exact HB.out))) A14.out).mono ?_); rintro e w20 ⟨rfl, hb⟩; have n0_ := Aside0.mk (below_step (by repeat (first | (with_reducible first | exact HB.out | apply below_alloc | apply pw_below_drewN | apply below_drew1) | exact HB.out)) hb); clear HB; have HB := n0_; clear n0_; (try clear hb); (try clear hb2); (try clear hk); (try clear hi)) | (go_at_call 7; (with_reducible refine (impl_ReadTime.calls k t117 t118 _ (tabB HT.out (by repeat (first | (with_reducible first | exact HB.out | apply below_alloc | apply pw_below_drewN | apply below_drew1) | exact HB.out))) A15.out).mono ?_); rintro e w21 ⟨rfl, hb⟩; have n0_ := Aside0.mk (below_step (by repeat (first | (with_reducible first | exact HB.out | apply below_alloc | apply pw_below_drewN | apply below_drew1) | exact HB.out)) hb); clear HB; have HB := n0_; clear n0_; (try clear hb); (try clear hb2); (try clear hk); (try clear hi)) | (go_at_call 10; (with_reducible refine (impl_TimeText.calls (wrap64 ((wrap64 ((wrap64 (t112 * 256)) + t113)) + 1)) t119 _ (tabB HT.out (by repeat (first | (with_reducible first | exact HB.out | apply below_alloc | apply pw_below_drewN | apply below_drew1) | exact HB.out))) A17.out).mono ?_); rintro e w22 ⟨rfl, hb⟩; have n0_ := Aside0.mk (below_step (by repeat (first | (with_reducible first | exact HB.out | apply below_alloc | apply pw_below_drewN | apply below_drew1) | exact HB.out)) hb); clear HB; have HB := n0_; clear n0_; (try clear hb); (try clear hb2); (try clear hk); (try clear hi)))
       go_meet
       case rel => exact ⟨_, ((t119.toList == t114.toList)), (by first | rfl | (rw [Option.some.inj (A14.out.symm.trans A17.out)]) | (simp; done) | (simp [*]; done)), H', ⟨by first | omega | exact Nat.le_refl _⟩, ⟨by repeat (first | (with_reducible first | exact HB.out | apply below_alloc | apply pw_below_drewN | apply below_drew1) | exact HB.out)⟩⟩
      ·rw [if_neg c16] at H
       have c16b0 : (t118 == (wrap64 ((wrap64 ((wrap64 (t112 * 256)) + t113)) + 1))) = false := beq_eq_false_iff_ne.mpr c16
       have c16b1 : (t118 != (wrap64 ((wrap64 ((wrap64 (t112 * 256)) + t113)) + 1))) = true := bne_iff_ne.mpr c16
       have H' := Aside0.mk H
       clear H
       go_wp2_with (first | ((with_reducible refine gate_callee (f := 7) rfl ?_); refine goesL_ (some 16) rfl rfl Tryd.func7 (by kernel_rfl) rfl #[.string t114] rfl (by (try simp only [List.map_toArray, List.map_cons, List.map_nil]); first | done | rfl | (simp only [List.length_drop, List.length_take]; rfl)) ?_; (with_reducible refine (impl_ReadTime.calls k t114 t115 _ (tabB HT.out (by repeat (first | (with_reducible first | exact HB.out | apply below_alloc | apply pw_below_drewN | apply below_drew1) | exact HB.out))) A9.out).mono ?_); rintro e w23 ⟨rfl, hb⟩; refine ⟨_, rfl, ?_⟩; have n0_ := Aside0.mk (below_step (by repeat (first | (with_reducible first | exact HB.out | apply below_alloc | apply pw_below_drewN | apply below_drew1) | exact HB.out)) hb); clear HB; have HB := n0_; clear n0_; (try clear hb); (try clear hb2); (try clear hk); (try clear hi)) | (go_at_call 7; (with_reducible refine (impl_ReadTime.calls k ((⟨#[48]⟩ : ByteArray) ++ t114) t116 _ (tabB HT.out (by repeat (first | (with_reducible first | exact HB.out | apply below_alloc | apply pw_below_drewN | apply below_drew1) | exact HB.out))) A12.out).mono ?_); rintro e w24 ⟨rfl, hb⟩; have n0_ := Aside0.mk (below_step (by repeat (first | (with_reducible first | exact HB.out | apply below_alloc | apply pw_below_drewN | apply below_drew1) | exact HB.out)) hb); clear HB; have HB := n0_; clear n0_; (try clear hb); (try clear hb2); (try clear hk); (try clear hi)) | (go_at_call 10; (with_reducible refine (impl_TimeText.calls (wrap64 ((wrap64 ((wrap64 (t112 * 256)) + t113)) + 1)) t117 _ (tabB HT.out (by repeat (first | (with_reducible first | exact HB.out | apply below_alloc | apply pw_below_drewN | apply below_drew1) | exact HB.out))) A14.out).mono ?_); rintro e w25 ⟨rfl, hb⟩; have n0_ := Aside0.mk (below_step (by repeat (first | (with_reducible first | exact HB.out | apply below_alloc | apply pw_below_drewN | apply below_drew1) | exact HB.out)) hb); clear HB; have HB := n0_; clear n0_; (try clear hb); (try clear hb2); (try clear hk); (try clear hi)) | (go_at_call 7; (with_reducible refine (impl_ReadTime.calls k t117 t118 _ (tabB HT.out (by repeat (first | (with_reducible first | exact HB.out | apply below_alloc | apply pw_below_drewN | apply below_drew1) | exact HB.out))) A15.out).mono ?_); rintro e w26 ⟨rfl, hb⟩; have n0_ := Aside0.mk (below_step (by repeat (first | (with_reducible first | exact HB.out | apply below_alloc | apply pw_below_drewN | apply below_drew1) | exact HB.out)) hb); clear HB; have HB := n0_; clear n0_; (try clear hb); (try clear hb2); (try clear hk); (try clear hi)))
       go_meet
       case rel => exact ⟨_, (true), (by first | rfl | (simp; done) | (simp [*]; done)), H', ⟨by first | omega | exact Nat.le_refl _⟩, ⟨by repeat (first | (with_reducible first | exact HB.out | apply below_alloc | apply pw_below_drewN | apply below_drew1) | exact HB.out)⟩⟩
     ·rw [if_neg c13] at H
      have c13b0 : (t116 == (-1)) = false := beq_eq_false_iff_ne.mpr c13
      have c13b1 : (t116 != (-1)) = true := bne_iff_ne.mpr c13
      have H' := Aside0.mk H
      clear H
      go_wp2_with (first | ((with_reducible refine gate_callee (f := 7) rfl ?_); refine goesL_ (some 16) rfl rfl Tryd.func7 (by kernel_rfl) rfl #[.string t114] rfl (by (try simp only [List.map_toArray, List.map_cons, List.map_nil]); first | done | rfl | (simp only [List.length_drop, List.length_take]; rfl)) ?_; (with_reducible refine (impl_ReadTime.calls k t114 t115 _ (tabB HT.out (by repeat (first | (with_reducible first | exact HB.out | apply below_alloc | apply pw_below_drewN | apply below_drew1) | exact HB.out))) A9.out).mono ?_); rintro e w27 ⟨rfl, hb⟩; refine ⟨_, rfl, ?_⟩; have n0_ := Aside0.mk (below_step (by repeat (first | (with_reducible first | exact HB.out | apply below_alloc | apply pw_below_drewN | apply below_drew1) | exact HB.out)) hb); clear HB; have HB := n0_; clear n0_; (try clear hb); (try clear hb2); (try clear hk); (try clear hi)) | (go_at_call 7; (with_reducible refine (impl_ReadTime.calls k ((⟨#[48]⟩ : ByteArray) ++ t114) t116 _ (tabB HT.out (by repeat (first | (with_reducible first | exact HB.out | apply below_alloc | apply pw_below_drewN | apply below_drew1) | exact HB.out))) A12.out).mono ?_); rintro e w28 ⟨rfl, hb⟩; have n0_ := Aside0.mk (below_step (by repeat (first | (with_reducible first | exact HB.out | apply below_alloc | apply pw_below_drewN | apply below_drew1) | exact HB.out)) hb); clear HB; have HB := n0_; clear n0_; (try clear hb); (try clear hb2); (try clear hk); (try clear hi)))
      go_meet
      case rel => exact ⟨_, (true), (by first | rfl | (simp; done) | (simp [*]; done)), H', ⟨by first | omega | exact Nat.le_refl _⟩, ⟨by repeat (first | (with_reducible first | exact HB.out | apply below_alloc | apply pw_below_drewN | apply below_drew1) | exact HB.out)⟩⟩
    ·rw [if_neg c11] at H
     exact absurd H (by simp)
   ·rw [if_neg c10] at H
    have c10b0 : (t115 == (wrap64 ((wrap64 (t112 * 256)) + t113))) = false := beq_eq_false_iff_ne.mpr c10
    have c10b1 : (t115 != (wrap64 ((wrap64 (t112 * 256)) + t113))) = true := bne_iff_ne.mpr c10
    (first | rw [c10b0] | (simp only [i64_w, i32_w]; rw [c10b0]) | rw [c10b1] | skip)
    have H' := Aside0.mk H
    clear H
    go_wp2_with (first | ((with_reducible refine gate_callee (f := 7) rfl ?_); refine goesL_ (some 16) rfl rfl Tryd.func7 (by kernel_rfl) rfl #[.string t114] rfl (by (try simp only [List.map_toArray, List.map_cons, List.map_nil]); first | done | rfl | (simp only [List.length_drop, List.length_take]; rfl)) ?_; (with_reducible refine (impl_ReadTime.calls k t114 t115 _ (tabB HT.out (by repeat (first | (with_reducible first | exact HB.out | apply below_alloc | apply pw_below_drewN | apply below_drew1) | exact HB.out))) A9.out).mono ?_); rintro e w29 ⟨rfl, hb⟩; refine ⟨_, rfl, ?_⟩; have n0_ := Aside0.mk (below_step (by repeat (first | (with_reducible first | exact HB.out | apply below_alloc | apply pw_below_drewN | apply below_drew1) | exact HB.out)) hb); clear HB; have HB := n0_; clear n0_; (try clear hb); (try clear hb2); (try clear hk); (try clear hi)))
    go_meet
    case rel => exact ⟨_, (true), (by first | rfl | (simp; done) | (simp [*]; done)), H', ⟨by first | omega | exact Nat.le_refl _⟩, ⟨by repeat (first | (with_reducible first | exact HB.out | apply below_alloc | apply pw_below_drewN | apply below_drew1) | exact HB.out)⟩⟩
  case rest =>
   clear HC7
   try clear c1
   try clear p2
   try clear c3
   try clear c4
   try clear p6
   try clear c7
   try clear c8
   try clear c9
   try clear c10
   try clear c10b0
   try clear c10b1
   try clear c11
   try clear c11b0
   try clear c11b1
   try clear c11b2
   try clear c13
   try clear c13b0
   try clear c13b1
   try clear c16
   try clear c16b0
   try clear c16b1
   obtain ⟨kq, x40_6, rfl, HA, HJ6, HB⟩ := hcut
   cases kq with
   | zero => exact absurd HA.out (by simp [laws_FnTimes.j0])
   | succ kj6 =>
    have H := HA.out
    clear HA
    simp only [laws_FnTimes.j0] at H
    by_cases c30 : x40_6 = true
    ·subst c30
     have H1 : (some false) = some true := by (first | (rw [if_pos rfl] at H; exact H) | rfl)
     clear H
     have H := H1
     clear H1
     exact absurd (Option.some.inj H) (by decide)
    ·replace c30 := Bool.eq_false_iff.mpr c30
     subst c30
     have H1 : ((impl_TimeText.f 100000).bind fun t120 => ((impl_ReadTime.f kj6 t120).bind fun t121 => (if t121 = 100000 then ((impl_TimeText.f 100001).bind fun t122 => (if t122.toList = ([] : List UInt8) then ((impl_ReadTime.f kj6 (⟨#[]⟩ : ByteArray)).bind fun t123 => (if t123 = (-1) then ((impl_TimeText.f 425).bind fun t124 => (some (t124.toList == ([48, 55, 58, 48, 53] : List UInt8)))) else (some false))) else (some false))) else (some false)))) = some true := by (first | (rw [if_neg (show ¬ (false = true) by decide)] at H; exact H) | rfl)
     clear H
     have H := H1
     clear H1
     replace H := Option.bind_eq_some_iff.mp H
     obtain ⟨t120, A310, H⟩ := H
     replace H : ((impl_ReadTime.f kj6 t120).bind fun t121 => (if t121 = 100000 then ((impl_TimeText.f 100001).bind fun t122 => (if t122.toList = ([] : List UInt8) then ((impl_ReadTime.f kj6 (⟨#[]⟩ : ByteArray)).bind fun t123 => (if t123 = (-1) then ((impl_TimeText.f 425).bind fun t124 => (some (t124.toList == ([48, 55, 58, 48, 53] : List UInt8)))) else (some false))) else (some false))) else (some false))) = some true := H
     have A31 := Aside0.mk A310
     clear A310
     replace H := Option.bind_eq_some_iff.mp H
     obtain ⟨t121, A320, H⟩ := H
     replace H : (if t121 = 100000 then ((impl_TimeText.f 100001).bind fun t122 => (if t122.toList = ([] : List UInt8) then ((impl_ReadTime.f kj6 (⟨#[]⟩ : ByteArray)).bind fun t123 => (if t123 = (-1) then ((impl_TimeText.f 425).bind fun t124 => (some (t124.toList == ([48, 55, 58, 48, 53] : List UInt8)))) else (some false))) else (some false))) else (some false)) = some true := H
     have A32 := Aside0.mk A320
     clear A320
     by_cases c33 : t121 = 100000
     ·rw [if_pos c33] at H
      have c33b0 : (t121 == 100000) = true := beq_iff_eq.mpr c33
      have c33b1 : (t121 != 100000) = false := bne_eq_false_iff_eq.mpr c33
      clear c33
      replace H := Option.bind_eq_some_iff.mp H
      obtain ⟨t122, A340, H⟩ := H
      replace H : (if t122.toList = ([] : List UInt8) then ((impl_ReadTime.f kj6 (⟨#[]⟩ : ByteArray)).bind fun t123 => (if t123 = (-1) then ((impl_TimeText.f 425).bind fun t124 => (some (t124.toList == ([48, 55, 58, 48, 53] : List UInt8)))) else (some false))) else (some false)) = some true := H
      have A34 := Aside0.mk A340
      clear A340
      by_cases c35 : t122.toList = ([] : List UInt8)
      ·rw [if_pos c35] at H
       have c35b0 : (t122.toList == ([] : List UInt8)) = true := beq_iff_eq.mpr c35
       have c35b1 : (t122.toList != ([] : List UInt8)) = false := bne_eq_false_iff_eq.mpr c35
       clear c35
       replace H := Option.bind_eq_some_iff.mp H
       obtain ⟨t123, A360, H⟩ := H
       replace H : (if t123 = (-1) then ((impl_TimeText.f 425).bind fun t124 => (some (t124.toList == ([48, 55, 58, 48, 53] : List UInt8)))) else (some false)) = some true := H
       have A36 := Aside0.mk A360
       clear A360
       by_cases c37 : t123 = (-1)
       ·rw [if_pos c37] at H
        have c37b0 : (t123 == (-1)) = true := beq_iff_eq.mpr c37
        have c37b1 : (t123 != (-1)) = false := bne_eq_false_iff_eq.mpr c37
        clear c37
        replace H := Option.bind_eq_some_iff.mp H
        obtain ⟨t124, A380, H⟩ := H
        replace H : (some (t124.toList == ([48, 55, 58, 48, 53] : List UInt8))) = some true := H
        have A38 := Aside0.mk A380
        clear A380
        have HRT : ((t124.toList == ([48, 55, 58, 48, 53] : List UInt8))) = true := Option.some.inj H
        go_wp2_with (first | ((with_reducible refine gate_callee (f := 10) rfl ?_); refine goesL_ (some 41) rfl rfl Tryd.func10 (by kernel_rfl) rfl #[.int .i64 100000] rfl (by (try simp only [List.map_toArray, List.map_cons, List.map_nil]); first | done | rfl | (simp only [List.length_drop, List.length_take]; rfl)) ?_; (with_reducible refine (impl_TimeText.calls 100000 t120 _ (tabB HT.out (by repeat (first | (with_reducible first | exact HB.out | apply below_alloc | apply pw_below_drewN | apply below_drew1) | exact HB.out))) A31.out).mono ?_); rintro e w39 ⟨rfl, hb⟩; refine ⟨_, rfl, ?_⟩; have n0_ := Aside0.mk (below_step (by repeat (first | (with_reducible first | exact HB.out | apply below_alloc | apply pw_below_drewN | apply below_drew1) | exact HB.out)) hb); clear HB; have HB := n0_; clear n0_; (try clear hb); (try clear hb2); (try clear hk); (try clear hi)) | ((with_reducible refine gate_callee (f := 7) rfl ?_); refine goesL_ (some 42) rfl rfl Tryd.func7 (by kernel_rfl) rfl #[.string t120] rfl (by (try simp only [List.map_toArray, List.map_cons, List.map_nil]); first | done | rfl | (simp only [List.length_drop, List.length_take]; rfl)) ?_; (with_reducible refine (impl_ReadTime.calls kj6 t120 t121 _ (tabB HT.out (by repeat (first | (with_reducible first | exact HB.out | apply below_alloc | apply pw_below_drewN | apply below_drew1) | exact HB.out))) A32.out).mono ?_); rintro e w40 ⟨rfl, hb⟩; refine ⟨_, rfl, ?_⟩; have n0_ := Aside0.mk (below_step (by repeat (first | (with_reducible first | exact HB.out | apply below_alloc | apply pw_below_drewN | apply below_drew1) | exact HB.out)) hb); clear HB; have HB := n0_; clear n0_; (try clear hb); (try clear hb2); (try clear hk); (try clear hi)) | (go_at_call 10; (with_reducible refine (impl_TimeText.calls 100001 t122 _ (tabB HT.out (by repeat (first | (with_reducible first | exact HB.out | apply below_alloc | apply pw_below_drewN | apply below_drew1) | exact HB.out))) A34.out).mono ?_); rintro e w41 ⟨rfl, hb⟩; have n0_ := Aside0.mk (below_step (by repeat (first | (with_reducible first | exact HB.out | apply below_alloc | apply pw_below_drewN | apply below_drew1) | exact HB.out)) hb); clear HB; have HB := n0_; clear n0_; (try clear hb); (try clear hb2); (try clear hk); (try clear hi)) | (go_at_call 7; (with_reducible refine (impl_ReadTime.calls kj6 (⟨#[]⟩ : ByteArray) t123 _ (tabB HT.out (by repeat (first | (with_reducible first | exact HB.out | apply below_alloc | apply pw_below_drewN | apply below_drew1) | exact HB.out))) A36.out).mono ?_); rintro e w42 ⟨rfl, hb⟩; have n0_ := Aside0.mk (below_step (by repeat (first | (with_reducible first | exact HB.out | apply below_alloc | apply pw_below_drewN | apply below_drew1) | exact HB.out)) hb); clear HB; have HB := n0_; clear n0_; (try clear hb); (try clear hb2); (try clear hk); (try clear hi)) | (go_at_call 10; (with_reducible refine (impl_TimeText.calls 425 t124 _ (tabB HT.out (by repeat (first | (with_reducible first | exact HB.out | apply below_alloc | apply pw_below_drewN | apply below_drew1) | exact HB.out))) A38.out).mono ?_); rintro e w43 ⟨rfl, hb⟩; have n0_ := Aside0.mk (below_step (by repeat (first | (with_reducible first | exact HB.out | apply below_alloc | apply pw_below_drewN | apply below_drew1) | exact HB.out)) hb); clear HB; have HB := n0_; clear n0_; (try clear hb); (try clear hb2); (try clear hk); (try clear hi)))
        all_goals (first | (exfalso; omega) | skip)
        go_ret
        exact ⟨by first | rfl | (simp [errW_none, errW_some] <;> rfl) | (simp [*, errW_none, errW_some] <;> rfl), by repeat (first | (with_reducible first | exact HB.out | apply below_alloc | apply pw_below_drewN | apply below_drew1) | exact HB.out)⟩
       ·rw [if_neg c37] at H
        have c37b0 : (t123 == (-1)) = false := beq_eq_false_iff_ne.mpr c37
        have c37b1 : (t123 != (-1)) = true := bne_iff_ne.mpr c37
        exact absurd (Option.some.inj H) (by decide)
      ·rw [if_neg c35] at H
       have c35b0 : (t122.toList == ([] : List UInt8)) = false := beq_eq_false_iff_ne.mpr c35
       have c35b1 : (t122.toList != ([] : List UInt8)) = true := bne_iff_ne.mpr c35
       exact absurd (Option.some.inj H) (by decide)
     ·rw [if_neg c33] at H
      have c33b0 : (t121 == 100000) = false := beq_eq_false_iff_ne.mpr c33
      have c33b1 : (t121 != 100000) = true := bne_iff_ne.mpr c33
      exact absurd (Option.some.inj H) (by decide)

/-- THE ONE PURE STATEMENT of laws_FnTimes: yours. -/
def laws_FnTimes.Pure : Prop := ∀ (l0 : List Int), l0.length ≤ maxLen → l0.length * 1 ≤ 140737488351232 → (∀ x ∈ l0, (Lit.int .u8 x).wf = true) → ∃ k, laws_FnTimes.f k l0 = some true
theorem laws_FnTimes.walk (P : laws_FnTimes.Pure) (a0 : Option Addr) (len0 cap0 : Nat) (z0 : List Int) (w : World) (htab : Tab w) (w0 : (a0 = none ∧ len0 = 0 ∧ cap0 = 0 ∧ z0 = []) ∨ ∃ x, a0 = some x ∧ len0 ≤ cap0 ∧ cap0 ≤ maxLen ∧ z0.length = cap0 ∧ (∀ i, i < z0.length → w.cell? (x.add i) = some (.int .u8 (z0.getD i 0))) ∧ ∀ n ∈ z0, (Lit.int .u8 n).wf = true) (y0 : len0 * 1 ≤ 140737488351232) :
  Calls Tryd.prog 4 #[.slice a0 len0 cap0] w fun e w' => e = .returned (.bool true) ∧ Below w.heap.size w w' := by
 obtain ⟨l0, rfl, hr0, hm0, hw0, hc0⟩ := ReadsInt.ofRowC w0
 obtain ⟨k, h⟩ := P l0 hm0 y0 hw0
 refine (laws_FnTimes.calls k _ _ l0 w (Kd.C_of_reads (d := (0 : Int)) (h1 := fun _ => rfl) hr0) hc0 htab h).mono ?_
 rintro e w' ⟨rfl, hd⟩
 exact ⟨rfl, hd⟩

end Go.Proofs.YtgjhlkjfdlkndaaDoor.PFnTimes
