-- Written by a program of this session (wip/tools/fltprint.py: the kit's printer, taught more).
import Derived.Test.YtmbonjljbienkaaPFnRidex0
import Derived.Test.YtmbonjljbienkaaPFnRidex3
import Derived.Test.YtmbonjljbienkaaPFnRidex4
namespace Go.Proofs.Ytmbonjljbienkaa.PFnRide
open Go.RowKit Go.Proofs.YtmbonjljbienkaaW.PrintWords Go.Proofs.YtmbonjljbienkaaW.PrintLast Go.Proofs.YtmbonjljbienkaaW.PrintMore
attribute [local go_sem] run_fl binOp_feq binOp_fne binOp_flt binOp_fle binOp_fgt binOp_fge run_store_f64 run_conv_f64
attribute [local go_sem] max2_int min2_int max_two min_two max_three min_three max_four min_four   -- for this text's walks alone
set_option linter.unusedVariables false
set_option linter.unusedSimpArgs false

/-! ### spec_Weigh: function 45 -/
def spec_Weigh.l0 : Nat → List (S61) → Nat → Int → Option (Nat)
 | 0, _, _, _ => none
 | k + 1, x0, x3, x4 => if x4 < (x0.length : Int) then (if 0 ≤ x4 then (if fok .add x3 ((rd_T61 x0 x4).f0) = true then (spec_Weigh.l0 k x0 (fval .add x3 ((rd_T61 x0 x4).f0)) (wrap64 (x4 + 1))) else (none)) else (none)) else (some x3)
def spec_Weigh.f (k : Nat) (l0 : List (S61)) : Option (Nat) := (spec_l04Train.f k l0).bind fun t234 => (if t234 = true then (if 0 < (l0.length : Int) then (spec_Weigh.l0 k l0 ((rd_T61 l0 0).f0) 1) else (none)) else (some (0 : Nat)))
theorem spec_Weigh.mono_l : ∀ k, (∀ y0 y1 y2, LeO (spec_Weigh.l0 k y0 y1 y2) (spec_Weigh.l0 (k + 1) y0 y1 y2))
 | 0 => fun _ _ _ r h => by simp [spec_Weigh.l0] at h
 | k + 1 => by
  have ih0 := spec_Weigh.mono_l k
  ·intro y0 y1 y2
   unfold spec_Weigh.l0
   repeat' first
   | (with_reducible exact ih0 _ _ _)
   | (with_reducible exact spec_l04Train.mono _ _)
   | (with_reducible exact LeO.refl _)
   | (with_reducible exact LeO.none _)
   | (with_reducible refine LeO.ite ?_ ?_)
   | (with_reducible refine LeO.bind ?_ (fun _ => ?_))
   | exact ih0 _ _ _
   | exact spec_l04Train.mono _ _
   | exact LeO.none _
   | refine LeO.ite ?_ ?_
   | refine LeO.bind ?_ (fun _ => ?_)
theorem spec_Weigh.mono : ∀ a0 k, LeO (spec_Weigh.f k a0) (spec_Weigh.f (k + 1) a0) := by
 intro a0 k
 have ih0 := spec_Weigh.mono_l k
 unfold spec_Weigh.f
 repeat' first
   | (with_reducible exact ih0 _ _ _)
   | (with_reducible exact spec_l04Train.mono _ _)
   | (with_reducible exact LeO.refl _)
   | (with_reducible exact LeO.none _)
   | (with_reducible refine LeO.ite ?_ ?_)
   | (with_reducible refine LeO.bind ?_ (fun _ => ?_))
   | exact ih0 _ _ _
   | exact spec_l04Train.mono _ _
   | exact LeO.none _
   | refine LeO.ite ?_ ?_
   | refine LeO.bind ?_ (fun _ => ?_)
set_option maxHeartbeats 8000000 in
set_option maxRecDepth 100000 in
theorem spec_Weigh.calls (k : Nat) (A0 : Option Addr) (c0 : Nat) (l0 : List (S61)) (r : Nat) (w : World) (hr0 : Kd.C k61 w A0 l0.length l0) (hc0 : l0.length ≤ c0) (h : spec_Weigh.f k l0 = some r) :
  Calls Try.prog 45 #[.slice A0 l0.length c0] w fun e w' => e = .returned (.float .f64 r) ∧ Below w.heap.size w w' := by
 have HR0 := Aside0.mk hr0
 have HC0 := Aside0.mk hc0
 clear hr0 hc0
 have HB := Aside0.mk (Below.refl w.heap.size w)
 have H : ((spec_l04Train.f k l0).bind fun t234 => (if t234 = true then (if 0 < (l0.length : Int) then (spec_Weigh.l0 k l0 ((rd_T61 l0 0).f0) 1) else (none)) else (some (0 : Nat)))) = some r := h
 clear h
 replace H := Option.bind_eq_some_iff.mp H
 obtain ⟨t234, A20, H⟩ := H
 replace H : (if t234 = true then (if 0 < (l0.length : Int) then (spec_Weigh.l0 k l0 ((rd_T61 l0 0).f0) 1) else (none)) else (some (0 : Nat))) = some r := H
 have A2 := Aside0.mk A20
 clear A20
 by_cases c3 : t234 = true
 ·subst c3
  have H1 : (if 0 < (l0.length : Int) then (spec_Weigh.l0 k l0 ((rd_T61 l0 0).f0) 1) else (none)) = some r := by (first | (rw [if_pos rfl] at H; exact H) | rfl)
  clear H
  have H := H1
  clear H1
  by_cases c4 : 0 < (l0.length : Int)
  ·rw [if_pos c4] at H
   have c4b0 : decide (0 < (l0.length : Int)) = true := decide_eq_true c4
   have c4b1 : decide (0 < l0.length) = true := decide_eq_true (by omega)
   clear c4
   have H' := Aside0.mk H
   clear H
   go_enter Try.func45, Try.ntmps45
   go_wp2_with (first | ((with_reducible refine gate_callee (f := 40) rfl ?_); refine goesL_ (some 6) rfl rfl Try.func40 (by kernel_rfl) rfl #[.slice A0 l0.length c0] rfl (by (try simp only [List.map_toArray, List.map_cons, List.map_nil]); first | done | rfl | (simp only [List.length_drop, List.length_take]; rfl)) ?_; (with_reducible refine (spec_l04Train.calls k _ _ l0 true _ ?side1 ?side2 A2.out).mono ?_); (case side1 => repeat (first | exact HR0.out | (with_reducible refine Kd.C_alloc ?_ _) | (with_reducible refine Kd.C_drewN ?_ _) | (with_reducible refine Kd.C_drew ?_))); (case side2 => exact HC0.out); rintro e w5 ⟨rfl, hb⟩; refine ⟨_, rfl, ?_⟩; have n0_ := Aside0.mk (below_step (by repeat (first | (with_reducible first | exact HB.out | apply below_alloc | apply pw_below_drewN | apply below_drew1) | exact HB.out)) hb); clear HB; have HB := n0_; clear n0_; (try clear hb); (try clear hb2); (try clear hk); (try clear hi); have p235 : 0 ≤ (0 : Int) := (by omega); have q235 : 0 < (l0.length : Int) := of_decide_eq_true (by first | (with_reducible assumption) | assumption); obtain ⟨ad235, e235, hx235_0, hx235_1, hx235_2, hx235_3⟩ := at_T61 HR0.out 0 p235 q235; cases e235; have qi235 : (0 < l0.length) = True := eq_true (by omega); (try rw [show ((0 : Int)).toNat = 0 from rfl] at hx235_0); (try rw [show 0 * 4 = 0 from rfl] at hx235_0); (try rw [Addr.add_zero'] at hx235_0); (try rw [show ((0 : Int)).toNat = 0 from rfl] at hx235_1); (try rw [show 0 * 4 = 0 from rfl] at hx235_1); (try rw [Addr.add_zero'] at hx235_1); (try rw [show ((0 : Int)).toNat = 0 from rfl] at hx235_2); (try rw [show 0 * 4 = 0 from rfl] at hx235_2); (try rw [Addr.add_zero'] at hx235_2); (try rw [show ((0 : Int)).toNat = 0 from rfl] at hx235_3); (try rw [show 0 * 4 = 0 from rfl] at hx235_3); (try rw [Addr.add_zero'] at hx235_3); replace hx235_0 := (HB.out.cell (World.block_lt_of_cell? w _ hx235_0)).trans hx235_0; replace hx235_1 := (HB.out.cell (World.block_lt_of_cell? w _ hx235_1)).trans hx235_1; replace hx235_2 := (HB.out.cell (World.block_lt_of_cell? w _ hx235_2)).trans hx235_2; replace hx235_3 := (HB.out.cell (World.block_lt_of_cell? w _ hx235_3)).trans hx235_3; replace p235 := eq_true p235; replace q235 := eq_true q235))
   go_loopg [3, 4] k (fun kq v3 v4 w' => ∃ (x3_1 : Nat) (x4_1 : Int), v3 = .float .f64 x3_1 ∧ v4 = .int .i64 x4_1 ∧ Aside0 (spec_Weigh.l0 kq l0 x3_1 x4_1 = some r) ∧ Aside0 (kq ≤ k) ∧ Aside0 (Below w.heap.size w w'))
   case atStart => exact ⟨((rd_T61 l0 0).f0), (1), (by first | rfl | (simp; done) | (simp [*]; done)), (by first | rfl | (simp; done) | (simp [*]; done)), H', ⟨Nat.le_refl _⟩, ⟨by repeat (first | (with_reducible first | exact HB.out | apply below_alloc | apply pw_below_drewN | apply below_drew1) | exact HB.out)⟩⟩
   case round =>
    clear H'
    try clear p2
    try clear q2
    try clear hx2
    try clear qi2
    try clear c3
    try clear c4
    try clear c4b0
    try clear c4b1
    try clear hx235_0
    try clear hx235_1
    try clear hx235_2
    try clear hx235_3
    try clear p235
    try clear q235
    obtain ⟨x3_1, x4_1, rfl, rfl, HA, HK1, HB⟩ := hrel
    cases gk with
    | zero => exact absurd HA.out (by simp [spec_Weigh.l0])
    | succ k1 =>
     have H := HA.out
     clear HA
     simp only [spec_Weigh.l0] at H
     by_cases c6 : x4_1 < (l0.length : Int)
     ·rw [if_pos c6] at H
      have c6b0 : decide (x4_1 < (l0.length : Int)) = true := decide_eq_true c6
      clear c6
      by_cases c7 : 0 ≤ x4_1
      ·rw [if_pos c7] at H
       have c7b0 : decide (0 ≤ x4_1) = true := decide_eq_true c7
       clear c7
       by_cases c8 : fok .add x3_1 ((rd_T61 l0 x4_1).f0) = true
       ·rw [if_pos c8] at H
        have c8b0 := eq_true c8
        have c8b1 : decide (fok .add x3_1 ((rd_T61 l0 x4_1).f0) = true) = true := decide_eq_true c8
        clear c8
        have H' := Aside0.mk H
        clear H
        have p236 : 0 ≤ (x4_1 : Int) := of_decide_eq_true (by first | (with_reducible assumption) | assumption)
        have q236 : x4_1 < (l0.length : Int) := of_decide_eq_true (by first | (with_reducible assumption) | assumption)
        obtain ⟨ad236, e236, hx236_0, hx236_1, hx236_2, hx236_3⟩ := at_T61 HR0.out x4_1 p236 q236
        obtain rfl : ad235 = ad236 := (by injection e236)
        replace hx236_0 := (HB.out.cell (World.block_lt_of_cell? w _ hx236_0)).trans hx236_0
        replace hx236_1 := (HB.out.cell (World.block_lt_of_cell? w _ hx236_1)).trans hx236_1
        replace hx236_2 := (HB.out.cell (World.block_lt_of_cell? w _ hx236_2)).trans hx236_2
        replace hx236_3 := (HB.out.cell (World.block_lt_of_cell? w _ hx236_3)).trans hx236_3
        replace p236 := eq_true p236
        replace q236 := eq_true q236
        go_wp2
        go_roundg k1
        case measure => have := HK1.out; omega
        case rel => exact ⟨(fval .add x3_1 ((rd_T61 l0 x4_1).f0)), (wrap64 (x4_1 + 1)), (by first | rfl | (simp; done) | (simp [*]; done)), (by first | rfl | (simp; done) | (simp [*]; done)), H', ⟨by have := HK1.out; omega⟩, ⟨by repeat (first | (with_reducible first | exact HB.out | apply below_alloc | apply pw_below_drewN | apply below_drew1) | exact HB.out)⟩⟩
       ·rw [if_neg c8] at H
        exact absurd H (by simp)
      ·rw [if_neg c7] at H
       exact absurd H (by simp)
     ·rw [if_neg c6] at H
      have c6b0 : decide (x4_1 < (l0.length : Int)) = false := decide_eq_false c6
      clear c6
      obtain rfl := Option.some.inj H
      go_wp2
      go_ret
      exact ⟨by first | rfl | (simp [errW_none, errW_some] <;> rfl) | (simp [*, errW_none, errW_some] <;> rfl), by repeat (first | (with_reducible first | exact HB.out | apply below_alloc | apply pw_below_drewN | apply below_drew1) | exact HB.out)⟩
  ·rw [if_neg c4] at H
   exact absurd H (by simp)
 ·replace c3 := Bool.eq_false_iff.mpr c3
  subst c3
  have H1 : (some (0 : Nat)) = some r := by (first | (rw [if_neg (show ¬ (false = true) by decide)] at H; exact H) | rfl)
  clear H
  have H := H1
  clear H1
  obtain rfl := Option.some.inj H
  go_enter Try.func45, Try.ntmps45
  go_wp2_with (first | ((with_reducible refine gate_callee (f := 40) rfl ?_); refine goesL_ (some 6) rfl rfl Try.func40 (by kernel_rfl) rfl #[.slice A0 l0.length c0] rfl (by (try simp only [List.map_toArray, List.map_cons, List.map_nil]); first | done | rfl | (simp only [List.length_drop, List.length_take]; rfl)) ?_; (with_reducible refine (spec_l04Train.calls k _ _ l0 false _ ?side1 ?side2 A2.out).mono ?_); (case side1 => repeat (first | exact HR0.out | (with_reducible refine Kd.C_alloc ?_ _) | (with_reducible refine Kd.C_drewN ?_ _) | (with_reducible refine Kd.C_drew ?_))); (case side2 => exact HC0.out); rintro e w9 ⟨rfl, hb⟩; refine ⟨_, rfl, ?_⟩; have n0_ := Aside0.mk (below_step (by repeat (first | (with_reducible first | exact HB.out | apply below_alloc | apply pw_below_drewN | apply below_drew1) | exact HB.out)) hb); clear HB; have HB := n0_; clear n0_; (try clear hb); (try clear hb2); (try clear hk); (try clear hi)))
  go_ret
  exact ⟨by first | rfl | (simp [errW_none, errW_some] <;> rfl) | (simp [*, errW_none, errW_some] <;> rfl), by repeat (first | (with_reducible first | exact HB.out | apply below_alloc | apply pw_below_drewN | apply below_drew1) | exact HB.out)⟩

/-! ### spec_Pull: function 17 -/
def spec_Pull.j0 : Nat → List (S61) → Nat → Nat → Nat → Bool → Nat → Nat → Option (Nat)
 | 0, _, _, _, _, _, _, _ => none
 | k + 1, x1, x2, x3, x4, x36, x238000, x238001 => if x36 = true then (some (0 : Nat)) else ((spec_Effort.f k x238000 x238001 x2).bind fun t243 => ((spec_Drag.f k x1 x2 x3).bind fun t244 => (if fok .sub t243 t244 = true then ((spec_Weigh.f k x1).bind fun t245 => (if fok .quo (fval .sub t243 t244) t245 = true then (if fok .mul (fval .quo (fval .sub t243 t244) t245) x4 = true then (if fok .add x2 (fval .mul (fval .quo (fval .sub t243 t244) t245) x4) = true then (if (fgt (fval .add x2 (fval .mul (fval .quo (fval .sub t243 t244) t245) x4)) (0 : Nat) = true) then (if fgt (fval .add x2 (fval .mul (fval .quo (fval .sub t243 t244) t245) x4)) (4641240890982006784 : Nat) = true then (some (4641240890982006784 : Nat)) else (some (fval .add x2 (fval .mul (fval .quo (fval .sub t243 t244) t245) x4)))) else (some (0 : Nat))) else (none)) else (none)) else (none))) else (none))))
def spec_Pull.f (k : Nat) (a0_0 : Nat) (a0_1 : Nat) (l1 : List (S61)) (a2 : Nat) (a3 : Nat) (a4 : Nat) : Option (Nat) := (spec_LocoOk.f a0_0 a0_1).bind fun t238 => (if t238 = true then ((spec_l04Train.f k l1).bind fun t239 => (if t239 = true then ((spec_l04Speed.f a2).bind fun t240 => (if t240 = true then ((spec_InRange.f a3 (13830554455654793216 : Nat) (4607182418800017408 : Nat)).bind fun t241 => (if t241 = true then ((spec_InRange.f a4 (0 : Nat) (4621819117588971520 : Nat)).bind fun t242 => (spec_Pull.j0 k l1 a2 a3 a4 (!t242) a0_0 a0_1)) else (spec_Pull.j0 k l1 a2 a3 a4 true a0_0 a0_1))) else (spec_Pull.j0 k l1 a2 a3 a4 true a0_0 a0_1))) else (spec_Pull.j0 k l1 a2 a3 a4 true a0_0 a0_1))) else (spec_Pull.j0 k l1 a2 a3 a4 true a0_0 a0_1))
theorem spec_Pull.mono_l : ∀ k, (∀ y0 y1 y2 y3 y4 y5 y6, LeO (spec_Pull.j0 k y0 y1 y2 y3 y4 y5 y6) (spec_Pull.j0 (k + 1) y0 y1 y2 y3 y4 y5 y6))
 | 0 => fun _ _ _ _ _ _ _ r h => by simp [spec_Pull.j0] at h
 | k + 1 => by
  have ih0 := spec_Pull.mono_l k
  ·intro y0 y1 y2 y3 y4 y5 y6
   unfold spec_Pull.j0
   repeat' first
   | (with_reducible exact ih0 _ _ _ _ _ _ _)
   | (with_reducible exact spec_Drag.mono _ _ _ _)
   | (with_reducible exact spec_Effort.mono _ _ _ _)
   | (with_reducible exact spec_Weigh.mono _ _)
   | (with_reducible exact spec_l04Train.mono _ _)
   | (with_reducible exact LeO.refl _)
   | (with_reducible exact LeO.none _)
   | (with_reducible refine LeO.ite ?_ ?_)
   | (with_reducible refine LeO.bind ?_ (fun _ => ?_))
   | exact ih0 _ _ _ _ _ _ _
   | exact spec_Drag.mono _ _ _ _
   | exact spec_Effort.mono _ _ _ _
   | exact spec_Weigh.mono _ _
   | exact spec_l04Train.mono _ _
   | exact LeO.none _
   | refine LeO.ite ?_ ?_
   | refine LeO.bind ?_ (fun _ => ?_)
theorem spec_Pull.mono : ∀ a0 a1 a2 a3 a4 a5 k, LeO (spec_Pull.f k a0 a1 a2 a3 a4 a5) (spec_Pull.f (k + 1) a0 a1 a2 a3 a4 a5) := by
 intro a0 a1 a2 a3 a4 a5 k
 have ih0 := spec_Pull.mono_l k
 unfold spec_Pull.f
 repeat' first
   | (with_reducible exact ih0 _ _ _ _ _ _ _)
   | (with_reducible exact spec_Drag.mono _ _ _ _)
   | (with_reducible exact spec_Effort.mono _ _ _ _)
   | (with_reducible exact spec_Weigh.mono _ _)
   | (with_reducible exact spec_l04Train.mono _ _)
   | (with_reducible exact LeO.refl _)
   | (with_reducible exact LeO.none _)
   | (with_reducible refine LeO.ite ?_ ?_)
   | (with_reducible refine LeO.bind ?_ (fun _ => ?_))
   | exact ih0 _ _ _ _ _ _ _
   | exact spec_Drag.mono _ _ _ _
   | exact spec_Effort.mono _ _ _ _
   | exact spec_Weigh.mono _ _
   | exact spec_l04Train.mono _ _
   | exact LeO.none _
   | refine LeO.ite ?_ ?_
   | refine LeO.bind ?_ (fun _ => ?_)
set_option maxHeartbeats 8000000 in
set_option maxRecDepth 100000 in
theorem spec_Pull.calls (k : Nat) (a0_0 : Nat) (a0_1 : Nat) (A1 : Option Addr) (c1 : Nat) (l1 : List (S61)) (a2 : Nat) (a3 : Nat) (a4 : Nat) (r : Nat) (w : World) (hr1 : Kd.C k61 w A1 l1.length l1) (hc1 : l1.length ≤ c1) (h : spec_Pull.f k a0_0 a0_1 l1 a2 a3 a4 = some r) :
  Calls Try.prog 17 #[.agg #[.float .f64 a0_0, .float .f64 a0_1], .slice A1 l1.length c1, .float .f64 a2, .float .f64 a3, .float .f64 a4] w fun e w' => e = .returned (.float .f64 r) ∧ Below w.heap.size w w' := by
 have hu35 := Try.underlying35
 have HR1 := Aside0.mk hr1
 have HC1 := Aside0.mk hc1
 clear hr1 hc1
 have HB := Aside0.mk (Below.refl w.heap.size w)
 have H : ((spec_LocoOk.f a0_0 a0_1).bind fun t238 => (if t238 = true then ((spec_l04Train.f k l1).bind fun t239 => (if t239 = true then ((spec_l04Speed.f a2).bind fun t240 => (if t240 = true then ((spec_InRange.f a3 (13830554455654793216 : Nat) (4607182418800017408 : Nat)).bind fun t241 => (if t241 = true then ((spec_InRange.f a4 (0 : Nat) (4621819117588971520 : Nat)).bind fun t242 => (spec_Pull.j0 k l1 a2 a3 a4 (!t242) a0_0 a0_1)) else (spec_Pull.j0 k l1 a2 a3 a4 true a0_0 a0_1))) else (spec_Pull.j0 k l1 a2 a3 a4 true a0_0 a0_1))) else (spec_Pull.j0 k l1 a2 a3 a4 true a0_0 a0_1))) else (spec_Pull.j0 k l1 a2 a3 a4 true a0_0 a0_1))) = some r := h
 clear h
 have HC6 := Aside0.mk H
 clear H
 go_enter Try.func17, Try.ntmps17
 go_upto_region 1 with (first | ((with_reducible refine gate_dst (N := 5) rfl ?_); refine box_event ?hg (N := 5) ?hd (cs := #[.float .f64 a0_0, .float .f64 a0_1]) (t := 35) ?hr ?_; (case hd => rfl); (case hg => rfl); (case hr => first | (go_simp; done) | (go_simp; rfl)); intro gb237 hg w7 hbox hb; have n0_ := Aside0.mk (below_step (by repeat (first | (with_reducible first | exact HB.out | apply below_alloc | apply pw_below_drewN | apply below_drew1) | exact HB.out)) hb); have n1_ := Aside0.mk (hbox); have n2_ := Aside0.mk ((by rw [hg]; exact (below_size (by repeat (first | (with_reducible first | exact HB.out | apply below_alloc | apply pw_below_drewN | apply below_drew1) | exact HB.out))) : w.heap.size ≤ gb237)); have n3_ := Aside0.mk ((by rw [hg]; exact (below_size (by repeat (first | (with_reducible first | exact HB.out | apply below_alloc | apply pw_below_drewN | apply below_drew1) | exact HB.out))) : w.heap.size ≤ gb237)); clear HB; have HB := n0_; have BK237 := n1_; have GW237 := n2_; have GE237 := n3_; clear n0_ n1_ n2_ n3_; clear hb hbox hg))
 (try simp only [Act.put, List.setIfInBounds_toArray, List.set_cons_zero, List.set_cons_succ])
 go_cut [36] (fun v36 wc => ∃ (kq : Nat) (x36_5 : Bool), v36 = .bool x36_5 ∧ Aside0 (spec_Pull.j0 kq l1 a2 a3 a4 x36_5 a0_0 a0_1 = some r) ∧ Aside0 (kq ≤ k) ∧ Aside0 (wc.heap[gb237]? = some (.cells #[.float .f64 a0_0, .float .f64 a0_1] 35 (0, 0))) ∧ Aside0 (Below w.heap.size w wc))
 case first =>
  have H := HC6.out
  clear HC6
  replace H := Option.bind_eq_some_iff.mp H
  obtain ⟨t238, A80, H⟩ := H
  replace H : (if t238 = true then ((spec_l04Train.f k l1).bind fun t239 => (if t239 = true then ((spec_l04Speed.f a2).bind fun t240 => (if t240 = true then ((spec_InRange.f a3 (13830554455654793216 : Nat) (4607182418800017408 : Nat)).bind fun t241 => (if t241 = true then ((spec_InRange.f a4 (0 : Nat) (4621819117588971520 : Nat)).bind fun t242 => (spec_Pull.j0 k l1 a2 a3 a4 (!t242) a0_0 a0_1)) else (spec_Pull.j0 k l1 a2 a3 a4 true a0_0 a0_1))) else (spec_Pull.j0 k l1 a2 a3 a4 true a0_0 a0_1))) else (spec_Pull.j0 k l1 a2 a3 a4 true a0_0 a0_1))) else (spec_Pull.j0 k l1 a2 a3 a4 true a0_0 a0_1)) = some r := H
  have A8 := Aside0.mk A80
  clear A80
  by_cases c9 : t238 = true
  ·subst c9
   have H1 : ((spec_l04Train.f k l1).bind fun t239 => (if t239 = true then ((spec_l04Speed.f a2).bind fun t240 => (if t240 = true then ((spec_InRange.f a3 (13830554455654793216 : Nat) (4607182418800017408 : Nat)).bind fun t241 => (if t241 = true then ((spec_InRange.f a4 (0 : Nat) (4621819117588971520 : Nat)).bind fun t242 => (spec_Pull.j0 k l1 a2 a3 a4 (!t242) a0_0 a0_1)) else (spec_Pull.j0 k l1 a2 a3 a4 true a0_0 a0_1))) else (spec_Pull.j0 k l1 a2 a3 a4 true a0_0 a0_1))) else (spec_Pull.j0 k l1 a2 a3 a4 true a0_0 a0_1))) = some r := by (first | (rw [if_pos rfl] at H; exact H) | rfl)
   clear H
   have H := H1
   clear H1
   replace H := Option.bind_eq_some_iff.mp H
   obtain ⟨t239, A100, H⟩ := H
   replace H : (if t239 = true then ((spec_l04Speed.f a2).bind fun t240 => (if t240 = true then ((spec_InRange.f a3 (13830554455654793216 : Nat) (4607182418800017408 : Nat)).bind fun t241 => (if t241 = true then ((spec_InRange.f a4 (0 : Nat) (4621819117588971520 : Nat)).bind fun t242 => (spec_Pull.j0 k l1 a2 a3 a4 (!t242) a0_0 a0_1)) else (spec_Pull.j0 k l1 a2 a3 a4 true a0_0 a0_1))) else (spec_Pull.j0 k l1 a2 a3 a4 true a0_0 a0_1))) else (spec_Pull.j0 k l1 a2 a3 a4 true a0_0 a0_1)) = some r := H
   have A10 := Aside0.mk A100
   clear A100
   by_cases c11 : t239 = true
   ·subst c11
    have H1 : ((spec_l04Speed.f a2).bind fun t240 => (if t240 = true then ((spec_InRange.f a3 (13830554455654793216 : Nat) (4607182418800017408 : Nat)).bind fun t241 => (if t241 = true then ((spec_InRange.f a4 (0 : Nat) (4621819117588971520 : Nat)).bind fun t242 => (spec_Pull.j0 k l1 a2 a3 a4 (!t242) a0_0 a0_1)) else (spec_Pull.j0 k l1 a2 a3 a4 true a0_0 a0_1))) else (spec_Pull.j0 k l1 a2 a3 a4 true a0_0 a0_1))) = some r := by (first | (rw [if_pos rfl] at H; exact H) | rfl)
    clear H
    have H := H1
    clear H1
    replace H := Option.bind_eq_some_iff.mp H
    obtain ⟨t240, A120, H⟩ := H
    replace H : (if t240 = true then ((spec_InRange.f a3 (13830554455654793216 : Nat) (4607182418800017408 : Nat)).bind fun t241 => (if t241 = true then ((spec_InRange.f a4 (0 : Nat) (4621819117588971520 : Nat)).bind fun t242 => (spec_Pull.j0 k l1 a2 a3 a4 (!t242) a0_0 a0_1)) else (spec_Pull.j0 k l1 a2 a3 a4 true a0_0 a0_1))) else (spec_Pull.j0 k l1 a2 a3 a4 true a0_0 a0_1)) = some r := H
    have A12 := Aside0.mk A120
    clear A120
    by_cases c13 : t240 = true
    ·subst c13
     have H1 : ((spec_InRange.f a3 (13830554455654793216 : Nat) (4607182418800017408 : Nat)).bind fun t241 => (if t241 = true then ((spec_InRange.f a4 (0 : Nat) (4621819117588971520 : Nat)).bind fun t242 => (spec_Pull.j0 k l1 a2 a3 a4 (!t242) a0_0 a0_1)) else (spec_Pull.j0 k l1 a2 a3 a4 true a0_0 a0_1))) = some r := by (first | (rw [if_pos rfl] at H; exact H) | rfl)
     clear H
     have H := H1
     clear H1
     replace H := Option.bind_eq_some_iff.mp H
     obtain ⟨t241, A140, H⟩ := H
     replace H : (if t241 = true then ((spec_InRange.f a4 (0 : Nat) (4621819117588971520 : Nat)).bind fun t242 => (spec_Pull.j0 k l1 a2 a3 a4 (!t242) a0_0 a0_1)) else (spec_Pull.j0 k l1 a2 a3 a4 true a0_0 a0_1)) = some r := H
     have A14 := Aside0.mk A140
     clear A140
     by_cases c15 : t241 = true
     ·subst c15
      have H1 : ((spec_InRange.f a4 (0 : Nat) (4621819117588971520 : Nat)).bind fun t242 => (spec_Pull.j0 k l1 a2 a3 a4 (!t242) a0_0 a0_1)) = some r := by (first | (rw [if_pos rfl] at H; exact H) | rfl)
      clear H
      have H := H1
      clear H1
      replace H := Option.bind_eq_some_iff.mp H
      obtain ⟨t242, A160, H⟩ := H
      replace H : (spec_Pull.j0 k l1 a2 a3 a4 (!t242) a0_0 a0_1) = some r := H
      have A16 := Aside0.mk A160
      clear A160
      have H' := Aside0.mk H
      clear H
      have hcz17_0 : w7.cell? ⟨gb237, 0, none⟩ = some (.float .f64 a0_0) := (blk_cell BK237.out 0).trans rfl
      have hcz17_1 : w7.cell? ⟨gb237, 1, none⟩ = some (.float .f64 a0_1) := (blk_cell BK237.out 1).trans rfl
      have hfz17_0 := blk_frozen BK237.out 0
      have hfz17_1 := blk_frozen BK237.out 1
      go_wp2_with (first | ((with_reducible refine gate_callee (f := 39) rfl ?_); refine goesL_ (some 15) rfl rfl Try.func39 (by kernel_rfl) rfl #[.agg #[.float .f64 a0_0, .float .f64 a0_1]] rfl (by (try simp only [List.map_toArray, List.map_cons, List.map_nil]); first | done | rfl | (simp only [List.length_drop, List.length_take]; rfl)) ?_; (with_reducible refine (spec_LocoOk.calls a0_0 a0_1 true _ A8.out).mono ?_); rintro e w18 ⟨rfl, hb⟩; refine ⟨_, rfl, ?_⟩; have n0_ := Aside0.mk (blk_below (g := gb237) (o := .cells #[.float .f64 a0_0, .float .f64 a0_1] 35 (0, 0)) (by (with_reducible repeat (first | refine blk_drewN ?_ _ | refine blk_drew ?_ | refine blk_alloc ?_ _)); exact BK237.out) hb); have n1_ := Aside0.mk (below_step (by repeat (first | (with_reducible first | exact HB.out | apply below_alloc | apply pw_below_drewN | apply below_drew1 | refine below_set ?_ GE237.out) | exact HB.out)) hb); clear BK237; clear HB; have BK237 := n0_; have HB := n1_; clear n0_ n1_; (try clear hb); (try clear hb2); (try clear hk); (try clear hi)) | (go_at_call 40; (with_reducible refine (spec_l04Train.calls k _ _ l1 true _ ?side1 ?side2 A10.out).mono ?_); (case side1 => repeat (first | exact (Kd.C_below HR1.out HB.out) | (with_reducible refine Kd.C_alloc ?_ _) | (with_reducible refine Kd.C_drewN ?_ _) | (with_reducible refine Kd.C_drew ?_))); (case side2 => exact HC1.out); rintro e w19 ⟨rfl, hb⟩; have n0_ := Aside0.mk (blk_below (g := gb237) (o := .cells #[.float .f64 a0_0, .float .f64 a0_1] 35 (0, 0)) (by (with_reducible repeat (first | refine blk_drewN ?_ _ | refine blk_drew ?_ | refine blk_alloc ?_ _)); exact BK237.out) hb); have n1_ := Aside0.mk (below_step (by repeat (first | (with_reducible first | exact HB.out | apply below_alloc | apply pw_below_drewN | apply below_drew1 | refine below_set ?_ GE237.out) | exact HB.out)) hb); clear BK237; clear HB; have BK237 := n0_; have HB := n1_; clear n0_ n1_; (try clear hb); (try clear hb2); (try clear hk); (try clear hi)) | (go_at_call 41; (with_reducible refine (spec_l04Speed.calls a2 true _ A12.out).mono ?_); rintro e w' ⟨rfl, ⟨nd, rfl⟩⟩) | (go_at_call 42; (with_reducible refine (spec_InRange.calls a3 (13830554455654793216 : Nat) (4607182418800017408 : Nat) true _ A14.out).mono ?_); rintro e w' ⟨rfl, ⟨nd, rfl⟩⟩) | (go_at_call 42; (with_reducible refine (spec_InRange.calls a4 (0 : Nat) (4621819117588971520 : Nat) t242 _ A16.out).mono ?_); rintro e w' ⟨rfl, ⟨nd, rfl⟩⟩))
      go_meet
      case rel => exact ⟨_, (!t242), (by first | rfl | (simp; done) | (simp [*]; done)), H', ⟨by first | omega | exact Nat.le_refl _⟩, ⟨by (with_reducible repeat (first | refine blk_drewN ?_ _ | refine blk_drew ?_ | refine blk_alloc ?_ _)); exact BK237.out⟩, ⟨by repeat (first | (with_reducible first | exact HB.out | apply below_alloc | apply pw_below_drewN | apply below_drew1 | refine below_set ?_ GE237.out) | exact HB.out)⟩⟩
     ·replace c15 := Bool.eq_false_iff.mpr c15
      subst c15
      have H1 : (spec_Pull.j0 k l1 a2 a3 a4 true a0_0 a0_1) = some r := by (first | (rw [if_neg (show ¬ (false = true) by decide)] at H; exact H) | rfl)
      clear H
      have H := H1
      clear H1
      have H' := Aside0.mk H
      clear H
      have hcz20_0 : w7.cell? ⟨gb237, 0, none⟩ = some (.float .f64 a0_0) := (blk_cell BK237.out 0).trans rfl
      have hcz20_1 : w7.cell? ⟨gb237, 1, none⟩ = some (.float .f64 a0_1) := (blk_cell BK237.out 1).trans rfl
      have hfz20_0 := blk_frozen BK237.out 0
      have hfz20_1 := blk_frozen BK237.out 1
      go_wp2_with (first | ((with_reducible refine gate_callee (f := 39) rfl ?_); refine goesL_ (some 15) rfl rfl Try.func39 (by kernel_rfl) rfl #[.agg #[.float .f64 a0_0, .float .f64 a0_1]] rfl (by (try simp only [List.map_toArray, List.map_cons, List.map_nil]); first | done | rfl | (simp only [List.length_drop, List.length_take]; rfl)) ?_; (with_reducible refine (spec_LocoOk.calls a0_0 a0_1 true _ A8.out).mono ?_); rintro e w21 ⟨rfl, hb⟩; refine ⟨_, rfl, ?_⟩; have n0_ := Aside0.mk (blk_below (g := gb237) (o := .cells #[.float .f64 a0_0, .float .f64 a0_1] 35 (0, 0)) (by (with_reducible repeat (first | refine blk_drewN ?_ _ | refine blk_drew ?_ | refine blk_alloc ?_ _)); exact BK237.out) hb); have n1_ := Aside0.mk (below_step (by repeat (first | (with_reducible first | exact HB.out | apply below_alloc | apply pw_below_drewN | apply below_drew1 | refine below_set ?_ GE237.out) | exact HB.out)) hb); clear BK237; clear HB; have BK237 := n0_; have HB := n1_; clear n0_ n1_; (try clear hb); (try clear hb2); (try clear hk); (try clear hi)) | (go_at_call 40; (with_reducible refine (spec_l04Train.calls k _ _ l1 true _ ?side1 ?side2 A10.out).mono ?_); (case side1 => repeat (first | exact (Kd.C_below HR1.out HB.out) | (with_reducible refine Kd.C_alloc ?_ _) | (with_reducible refine Kd.C_drewN ?_ _) | (with_reducible refine Kd.C_drew ?_))); (case side2 => exact HC1.out); rintro e w22 ⟨rfl, hb⟩; have n0_ := Aside0.mk (blk_below (g := gb237) (o := .cells #[.float .f64 a0_0, .float .f64 a0_1] 35 (0, 0)) (by (with_reducible repeat (first | refine blk_drewN ?_ _ | refine blk_drew ?_ | refine blk_alloc ?_ _)); exact BK237.out) hb); have n1_ := Aside0.mk (below_step (by repeat (first | (with_reducible first | exact HB.out | apply below_alloc | apply pw_below_drewN | apply below_drew1 | refine below_set ?_ GE237.out) | exact HB.out)) hb); clear BK237; clear HB; have BK237 := n0_; have HB := n1_; clear n0_ n1_; (try clear hb); (try clear hb2); (try clear hk); (try clear hi)) | (go_at_call 41; (with_reducible refine (spec_l04Speed.calls a2 true _ A12.out).mono ?_); rintro e w' ⟨rfl, ⟨nd, rfl⟩⟩) | (go_at_call 42; (with_reducible refine (spec_InRange.calls a3 (13830554455654793216 : Nat) (4607182418800017408 : Nat) false _ A14.out).mono ?_); rintro e w' ⟨rfl, ⟨nd, rfl⟩⟩))
      go_meet
      case rel => exact ⟨_, (true), (by first | rfl | (simp; done) | (simp [*]; done)), H', ⟨by first | omega | exact Nat.le_refl _⟩, ⟨by (with_reducible repeat (first | refine blk_drewN ?_ _ | refine blk_drew ?_ | refine blk_alloc ?_ _)); exact BK237.out⟩, ⟨by repeat (first | (with_reducible first | exact HB.out | apply below_alloc | apply pw_below_drewN | apply below_drew1 | refine below_set ?_ GE237.out) | exact HB.out)⟩⟩
    ·replace c13 := Bool.eq_false_iff.mpr c13
     subst c13
     have H1 : (spec_Pull.j0 k l1 a2 a3 a4 true a0_0 a0_1) = some r := by (first | (rw [if_neg (show ¬ (false = true) by decide)] at H; exact H) | rfl)
     clear H
     have H := H1
     clear H1
     have H' := Aside0.mk H
     clear H
     have hcz23_0 : w7.cell? ⟨gb237, 0, none⟩ = some (.float .f64 a0_0) := (blk_cell BK237.out 0).trans rfl
     have hcz23_1 : w7.cell? ⟨gb237, 1, none⟩ = some (.float .f64 a0_1) := (blk_cell BK237.out 1).trans rfl
     have hfz23_0 := blk_frozen BK237.out 0
     have hfz23_1 := blk_frozen BK237.out 1
     go_wp2_with (first | ((with_reducible refine gate_callee (f := 39) rfl ?_); refine goesL_ (some 15) rfl rfl Try.func39 (by kernel_rfl) rfl #[.agg #[.float .f64 a0_0, .float .f64 a0_1]] rfl (by (try simp only [List.map_toArray, List.map_cons, List.map_nil]); first | done | rfl | (simp only [List.length_drop, List.length_take]; rfl)) ?_; (with_reducible refine (spec_LocoOk.calls a0_0 a0_1 true _ A8.out).mono ?_); rintro e w24 ⟨rfl, hb⟩; refine ⟨_, rfl, ?_⟩; have n0_ := Aside0.mk (blk_below (g := gb237) (o := .cells #[.float .f64 a0_0, .float .f64 a0_1] 35 (0, 0)) (by (with_reducible repeat (first | refine blk_drewN ?_ _ | refine blk_drew ?_ | refine blk_alloc ?_ _)); exact BK237.out) hb); have n1_ := Aside0.mk (below_step (by repeat (first | (with_reducible first | exact HB.out | apply below_alloc | apply pw_below_drewN | apply below_drew1 | refine below_set ?_ GE237.out) | exact HB.out)) hb); clear BK237; clear HB; have BK237 := n0_; have HB := n1_; clear n0_ n1_; (try clear hb); (try clear hb2); (try clear hk); (try clear hi)) | (go_at_call 40; (with_reducible refine (spec_l04Train.calls k _ _ l1 true _ ?side1 ?side2 A10.out).mono ?_); (case side1 => repeat (first | exact (Kd.C_below HR1.out HB.out) | (with_reducible refine Kd.C_alloc ?_ _) | (with_reducible refine Kd.C_drewN ?_ _) | (with_reducible refine Kd.C_drew ?_))); (case side2 => exact HC1.out); rintro e w25 ⟨rfl, hb⟩; have n0_ := Aside0.mk (blk_below (g := gb237) (o := .cells #[.float .f64 a0_0, .float .f64 a0_1] 35 (0, 0)) (by (with_reducible repeat (first | refine blk_drewN ?_ _ | refine blk_drew ?_ | refine blk_alloc ?_ _)); exact BK237.out) hb); have n1_ := Aside0.mk (below_step (by repeat (first | (with_reducible first | exact HB.out | apply below_alloc | apply pw_below_drewN | apply below_drew1 | refine below_set ?_ GE237.out) | exact HB.out)) hb); clear BK237; clear HB; have BK237 := n0_; have HB := n1_; clear n0_ n1_; (try clear hb); (try clear hb2); (try clear hk); (try clear hi)) | (go_at_call 41; (with_reducible refine (spec_l04Speed.calls a2 false _ A12.out).mono ?_); rintro e w' ⟨rfl, ⟨nd, rfl⟩⟩))
     go_meet
     case rel => exact ⟨_, (true), (by first | rfl | (simp; done) | (simp [*]; done)), H', ⟨by first | omega | exact Nat.le_refl _⟩, ⟨by (with_reducible repeat (first | refine blk_drewN ?_ _ | refine blk_drew ?_ | refine blk_alloc ?_ _)); exact BK237.out⟩, ⟨by repeat (first | (with_reducible first | exact HB.out | apply below_alloc | apply pw_below_drewN | apply below_drew1 | refine below_set ?_ GE237.out) | exact HB.out)⟩⟩
   ·replace c11 := Bool.eq_false_iff.mpr c11
    subst c11
    have H1 : (spec_Pull.j0 k l1 a2 a3 a4 true a0_0 a0_1) = some r := by (first | (rw [if_neg (show ¬ (false = true) by decide)] at H; exact H) | rfl)
    clear H
    have H := H1
    clear H1
    have H' := Aside0.mk H
    clear H
    have hcz26_0 : w7.cell? ⟨gb237, 0, none⟩ = some (.float .f64 a0_0) := (blk_cell BK237.out 0).trans rfl
    have hcz26_1 : w7.cell? ⟨gb237, 1, none⟩ = some (.float .f64 a0_1) := (blk_cell BK237.out 1).trans rfl
    have hfz26_0 := blk_frozen BK237.out 0
    have hfz26_1 := blk_frozen BK237.out 1
    go_wp2_with (first | ((with_reducible refine gate_callee (f := 39) rfl ?_); refine goesL_ (some 15) rfl rfl Try.func39 (by kernel_rfl) rfl #[.agg #[.float .f64 a0_0, .float .f64 a0_1]] rfl (by (try simp only [List.map_toArray, List.map_cons, List.map_nil]); first | done | rfl | (simp only [List.length_drop, List.length_take]; rfl)) ?_; (with_reducible refine (spec_LocoOk.calls a0_0 a0_1 true _ A8.out).mono ?_); rintro e w27 ⟨rfl, hb⟩; refine ⟨_, rfl, ?_⟩; have n0_ := Aside0.mk (blk_below (g := gb237) (o := .cells #[.float .f64 a0_0, .float .f64 a0_1] 35 (0, 0)) (by (with_reducible repeat (first | refine blk_drewN ?_ _ | refine blk_drew ?_ | refine blk_alloc ?_ _)); exact BK237.out) hb); have n1_ := Aside0.mk (below_step (by repeat (first | (with_reducible first | exact HB.out | apply below_alloc | apply pw_below_drewN | apply below_drew1 | refine below_set ?_ GE237.out) | exact HB.out)) hb); clear BK237; clear HB; have BK237 := n0_; have HB := n1_; clear n0_ n1_; (try clear hb); (try clear hb2); (try clear hk); (try clear hi)) | (go_at_call 40; (with_reducible refine (spec_l04Train.calls k _ _ l1 false _ ?side1 ?side2 A10.out).mono ?_); (case side1 => repeat (first | exact (Kd.C_below HR1.out HB.out) | (with_reducible refine Kd.C_alloc ?_ _) | (with_reducible refine Kd.C_drewN ?_ _) | (with_reducible refine Kd.C_drew ?_))); (case side2 => exact HC1.out); rintro e w28 ⟨rfl, hb⟩; have n0_ := Aside0.mk (blk_below (g := gb237) (o := .cells #[.float .f64 a0_0, .float .f64 a0_1] 35 (0, 0)) (by (with_reducible repeat (first | refine blk_drewN ?_ _ | refine blk_drew ?_ | refine blk_alloc ?_ _)); exact BK237.out) hb); have n1_ := Aside0.mk (below_step (by repeat (first | (with_reducible first | exact HB.out | apply below_alloc | apply pw_below_drewN | apply below_drew1 | refine below_set ?_ GE237.out) | exact HB.out)) hb); clear BK237; clear HB; have BK237 := n0_; have HB := n1_; clear n0_ n1_; (try clear hb); (try clear hb2); (try clear hk); (try clear hi)))
    go_meet
    case rel => exact ⟨_, (true), (by first | rfl | (simp; done) | (simp [*]; done)), H', ⟨by first | omega | exact Nat.le_refl _⟩, ⟨by (with_reducible repeat (first | refine blk_drewN ?_ _ | refine blk_drew ?_ | refine blk_alloc ?_ _)); exact BK237.out⟩, ⟨by repeat (first | (with_reducible first | exact HB.out | apply below_alloc | apply pw_below_drewN | apply below_drew1 | refine below_set ?_ GE237.out) | exact HB.out)⟩⟩
  ·replace c9 := Bool.eq_false_iff.mpr c9
   subst c9
   have H1 : (spec_Pull.j0 k l1 a2 a3 a4 true a0_0 a0_1) = some r := by (first | (rw [if_neg (show ¬ (false = true) by decide)] at H; exact H) | rfl)
   clear H
   have H := H1
   clear H1
   have H' := Aside0.mk H
   clear H
   have hcz29_0 : w7.cell? ⟨gb237, 0, none⟩ = some (.float .f64 a0_0) := (blk_cell BK237.out 0).trans rfl
   have hcz29_1 : w7.cell? ⟨gb237, 1, none⟩ = some (.float .f64 a0_1) := (blk_cell BK237.out 1).trans rfl
   have hfz29_0 := blk_frozen BK237.out 0
   have hfz29_1 := blk_frozen BK237.out 1
   go_wp2_with (first | ((with_reducible refine gate_callee (f := 39) rfl ?_); refine goesL_ (some 15) rfl rfl Try.func39 (by kernel_rfl) rfl #[.agg #[.float .f64 a0_0, .float .f64 a0_1]] rfl (by (try simp only [List.map_toArray, List.map_cons, List.map_nil]); first | done | rfl | (simp only [List.length_drop, List.length_take]; rfl)) ?_; (with_reducible refine (spec_LocoOk.calls a0_0 a0_1 false _ A8.out).mono ?_); rintro e w30 ⟨rfl, hb⟩; refine ⟨_, rfl, ?_⟩; have n0_ := Aside0.mk (blk_below (g := gb237) (o := .cells #[.float .f64 a0_0, .float .f64 a0_1] 35 (0, 0)) (by (with_reducible repeat (first | refine blk_drewN ?_ _ | refine blk_drew ?_ | refine blk_alloc ?_ _)); exact BK237.out) hb); have n1_ := Aside0.mk (below_step (by repeat (first | (with_reducible first | exact HB.out | apply below_alloc | apply pw_below_drewN | apply below_drew1 | refine below_set ?_ GE237.out) | exact HB.out)) hb); clear BK237; clear HB; have BK237 := n0_; have HB := n1_; clear n0_ n1_; (try clear hb); (try clear hb2); (try clear hk); (try clear hi)))
   go_meet
   case rel => exact ⟨_, (true), (by first | rfl | (simp; done) | (simp [*]; done)), H', ⟨by first | omega | exact Nat.le_refl _⟩, ⟨by (with_reducible repeat (first | refine blk_drewN ?_ _ | refine blk_drew ?_ | refine blk_alloc ?_ _)); exact BK237.out⟩, ⟨by repeat (first | (with_reducible first | exact HB.out | apply below_alloc | apply pw_below_drewN | apply below_drew1 | refine below_set ?_ GE237.out) | exact HB.out)⟩⟩
 case rest =>
  clear HC6
  try clear c1
  try clear p2
  try clear c3
  try clear c9
  try clear c11
  try clear c13
  try clear c15
  try clear c17
  try clear hcz17_0
  try clear hcz17_1
  try clear hcz20_0
  try clear hcz20_1
  try clear hcz23_0
  try clear hcz23_1
  try clear hcz26_0
  try clear hcz26_1
  try clear hcz29_0
  try clear hcz29_1
  try clear hfz17_0
  try clear hfz17_1
  try clear hfz20_0
  try clear hfz20_1
  try clear hfz23_0
  try clear hfz23_1
  try clear hfz26_0
  try clear hfz26_1
  try clear hfz29_0
  try clear hfz29_1
  obtain ⟨kq, x36_5, rfl, HA, HJ5, BK237, HB⟩ := hcut
  cases kq with
  | zero => exact absurd HA.out (by simp [spec_Pull.j0])
  | succ kj5 =>
   have H := HA.out
   clear HA
   simp only [spec_Pull.j0] at H
   by_cases c31 : x36_5 = true
   ·subst c31
    have H1 : (some (0 : Nat)) = some r := by (first | (rw [if_pos rfl] at H; exact H) | rfl)
    clear H
    have H := H1
    clear H1
    obtain rfl := Option.some.inj H
    go_wp2
    go_ret
    exact ⟨by first | rfl | (simp [errW_none, errW_some] <;> rfl) | (simp [*, errW_none, errW_some] <;> rfl), by repeat (first | (with_reducible first | exact HB.out | apply below_alloc | apply pw_below_drewN | apply below_drew1 | refine below_set ?_ GE237.out) | exact HB.out)⟩
   ·replace c31 := Bool.eq_false_iff.mpr c31
    subst c31
    have H1 : ((spec_Effort.f kj5 a0_0 a0_1 a2).bind fun t243 => ((spec_Drag.f kj5 l1 a2 a3).bind fun t244 => (if fok .sub t243 t244 = true then ((spec_Weigh.f kj5 l1).bind fun t245 => (if fok .quo (fval .sub t243 t244) t245 = true then (if fok .mul (fval .quo (fval .sub t243 t244) t245) a4 = true then (if fok .add a2 (fval .mul (fval .quo (fval .sub t243 t244) t245) a4) = true then (if (fgt (fval .add a2 (fval .mul (fval .quo (fval .sub t243 t244) t245) a4)) (0 : Nat) = true) then (if fgt (fval .add a2 (fval .mul (fval .quo (fval .sub t243 t244) t245) a4)) (4641240890982006784 : Nat) = true then (some (4641240890982006784 : Nat)) else (some (fval .add a2 (fval .mul (fval .quo (fval .sub t243 t244) t245) a4)))) else (some (0 : Nat))) else (none)) else (none)) else (none))) else (none)))) = some r := by (first | (rw [if_neg (show ¬ (false = true) by decide)] at H; exact H) | rfl)
    clear H
    have H := H1
    clear H1
    replace H := Option.bind_eq_some_iff.mp H
    obtain ⟨t243, A320, H⟩ := H
    replace H : ((spec_Drag.f kj5 l1 a2 a3).bind fun t244 => (if fok .sub t243 t244 = true then ((spec_Weigh.f kj5 l1).bind fun t245 => (if fok .quo (fval .sub t243 t244) t245 = true then (if fok .mul (fval .quo (fval .sub t243 t244) t245) a4 = true then (if fok .add a2 (fval .mul (fval .quo (fval .sub t243 t244) t245) a4) = true then (if (fgt (fval .add a2 (fval .mul (fval .quo (fval .sub t243 t244) t245) a4)) (0 : Nat) = true) then (if fgt (fval .add a2 (fval .mul (fval .quo (fval .sub t243 t244) t245) a4)) (4641240890982006784 : Nat) = true then (some (4641240890982006784 : Nat)) else (some (fval .add a2 (fval .mul (fval .quo (fval .sub t243 t244) t245) a4)))) else (some (0 : Nat))) else (none)) else (none)) else (none))) else (none))) = some r := H
    have A32 := Aside0.mk A320
    clear A320
    replace H := Option.bind_eq_some_iff.mp H
    obtain ⟨t244, A330, H⟩ := H
    replace H : (if fok .sub t243 t244 = true then ((spec_Weigh.f kj5 l1).bind fun t245 => (if fok .quo (fval .sub t243 t244) t245 = true then (if fok .mul (fval .quo (fval .sub t243 t244) t245) a4 = true then (if fok .add a2 (fval .mul (fval .quo (fval .sub t243 t244) t245) a4) = true then (if (fgt (fval .add a2 (fval .mul (fval .quo (fval .sub t243 t244) t245) a4)) (0 : Nat) = true) then (if fgt (fval .add a2 (fval .mul (fval .quo (fval .sub t243 t244) t245) a4)) (4641240890982006784 : Nat) = true then (some (4641240890982006784 : Nat)) else (some (fval .add a2 (fval .mul (fval .quo (fval .sub t243 t244) t245) a4)))) else (some (0 : Nat))) else (none)) else (none)) else (none))) else (none)) = some r := H
    have A33 := Aside0.mk A330
    clear A330
    by_cases c34 : fok .sub t243 t244 = true
    ·rw [if_pos c34] at H
     have c34b0 := eq_true c34
     have c34b1 : decide (fok .sub t243 t244 = true) = true := decide_eq_true c34
     clear c34
     replace H := Option.bind_eq_some_iff.mp H
     obtain ⟨t245, A350, H⟩ := H
     replace H : (if fok .quo (fval .sub t243 t244) t245 = true then (if fok .mul (fval .quo (fval .sub t243 t244) t245) a4 = true then (if fok .add a2 (fval .mul (fval .quo (fval .sub t243 t244) t245) a4) = true then (if (fgt (fval .add a2 (fval .mul (fval .quo (fval .sub t243 t244) t245) a4)) (0 : Nat) = true) then (if fgt (fval .add a2 (fval .mul (fval .quo (fval .sub t243 t244) t245) a4)) (4641240890982006784 : Nat) = true then (some (4641240890982006784 : Nat)) else (some (fval .add a2 (fval .mul (fval .quo (fval .sub t243 t244) t245) a4)))) else (some (0 : Nat))) else (none)) else (none)) else (none)) = some r := H
     have A35 := Aside0.mk A350
     clear A350
     by_cases c36 : fok .quo (fval .sub t243 t244) t245 = true
     ·rw [if_pos c36] at H
      have c36b0 := eq_true c36
      have c36b1 : decide (fok .quo (fval .sub t243 t244) t245 = true) = true := decide_eq_true c36
      clear c36
      by_cases c37 : fok .mul (fval .quo (fval .sub t243 t244) t245) a4 = true
      ·rw [if_pos c37] at H
       have c37b0 := eq_true c37
       have c37b1 : decide (fok .mul (fval .quo (fval .sub t243 t244) t245) a4 = true) = true := decide_eq_true c37
       clear c37
       by_cases c38 : fok .add a2 (fval .mul (fval .quo (fval .sub t243 t244) t245) a4) = true
       ·rw [if_pos c38] at H
        have c38b0 := eq_true c38
        have c38b1 : decide (fok .add a2 (fval .mul (fval .quo (fval .sub t243 t244) t245) a4) = true) = true := decide_eq_true c38
        clear c38
        by_cases c39 : (fgt (fval .add a2 (fval .mul (fval .quo (fval .sub t243 t244) t245) a4)) (0 : Nat) = true)
        ·rw [if_pos c39] at H
         have c39b0 : fgt (fval .add a2 (fval .mul (fval .quo (fval .sub t243 t244) t245) a4)) (0 : Nat) = true := c39
         clear c39
         by_cases c40 : fgt (fval .add a2 (fval .mul (fval .quo (fval .sub t243 t244) t245) a4)) (4641240890982006784 : Nat) = true
         ·rw [if_pos c40] at H
          have c40b0 : fgt (fval .add a2 (fval .mul (fval .quo (fval .sub t243 t244) t245) a4)) (4641240890982006784 : Nat) = true := c40
          clear c40
          obtain rfl := Option.some.inj H
          have hcz41_0 : wc.cell? ⟨gb237, 0, none⟩ = some (.float .f64 a0_0) := (blk_cell BK237.out 0).trans rfl
          have hcz41_1 : wc.cell? ⟨gb237, 1, none⟩ = some (.float .f64 a0_1) := (blk_cell BK237.out 1).trans rfl
          have hfz41_0 := blk_frozen BK237.out 0
          have hfz41_1 := blk_frozen BK237.out 1
          go_wp2_with (first | ((with_reducible refine gate_callee (f := 43) rfl ?_); refine goesL_ (some 39) rfl rfl Try.func43 (by kernel_rfl) rfl #[.agg #[.float .f64 a0_0, .float .f64 a0_1], .float .f64 a2] rfl (by (try simp only [List.map_toArray, List.map_cons, List.map_nil]); first | done | rfl | (simp only [List.length_drop, List.length_take]; rfl)) ?_; (with_reducible refine (spec_Effort.calls kj5 a0_0 a0_1 a2 t243 _ A32.out).mono ?_); rintro e w42 ⟨rfl, hb⟩; refine ⟨_, rfl, ?_⟩; have n0_ := Aside0.mk (blk_below (g := gb237) (o := .cells #[.float .f64 a0_0, .float .f64 a0_1] 35 (0, 0)) (by (with_reducible repeat (first | refine blk_drewN ?_ _ | refine blk_drew ?_ | refine blk_alloc ?_ _)); exact BK237.out) hb); have n1_ := Aside0.mk (below_step (by repeat (first | (with_reducible first | exact HB.out | apply below_alloc | apply pw_below_drewN | apply below_drew1 | refine below_set ?_ GE237.out) | exact HB.out)) hb); clear BK237; clear HB; have BK237 := n0_; have HB := n1_; clear n0_ n1_; (try clear hb); (try clear hb2); (try clear hk); (try clear hi)) | ((with_reducible refine gate_callee (f := 44) rfl ?_); refine goesL_ (some 43) rfl rfl Try.func44 (by kernel_rfl) rfl #[.slice A1 l1.length c1, .float .f64 a2, .float .f64 a3] rfl (by (try simp only [List.map_toArray, List.map_cons, List.map_nil]); first | done | rfl | (simp only [List.length_drop, List.length_take]; rfl)) ?_; (with_reducible refine (spec_Drag.calls kj5 _ _ l1 a2 a3 t244 _ ?side1 ?side2 A33.out).mono ?_); (case side1 => repeat (first | exact (Kd.C_below HR1.out HB.out) | (with_reducible refine Kd.C_alloc ?_ _) | (with_reducible refine Kd.C_drewN ?_ _) | (with_reducible refine Kd.C_drew ?_))); (case side2 => exact HC1.out); rintro e w43 ⟨rfl, hb⟩; refine ⟨_, rfl, ?_⟩; have n0_ := Aside0.mk (blk_below (g := gb237) (o := .cells #[.float .f64 a0_0, .float .f64 a0_1] 35 (0, 0)) (by (with_reducible repeat (first | refine blk_drewN ?_ _ | refine blk_drew ?_ | refine blk_alloc ?_ _)); exact BK237.out) hb); have n1_ := Aside0.mk (below_step (by repeat (first | (with_reducible first | exact HB.out | apply below_alloc | apply pw_below_drewN | apply below_drew1 | refine below_set ?_ GE237.out) | exact HB.out)) hb); clear BK237; clear HB; have BK237 := n0_; have HB := n1_; clear n0_ n1_; (try clear hb); (try clear hb2); (try clear hk); (try clear hi)) | ((with_reducible refine gate_callee (f := 45) rfl ?_); refine goesL_ (some 46) rfl rfl Try.func45 (by kernel_rfl) rfl #[.slice A1 l1.length c1] rfl (by (try simp only [List.map_toArray, List.map_cons, List.map_nil]); first | done | rfl | (simp only [List.length_drop, List.length_take]; rfl)) ?_; (with_reducible refine (spec_Weigh.calls kj5 _ _ l1 t245 _ ?side1 ?side2 A35.out).mono ?_); (case side1 => repeat (first | exact (Kd.C_below HR1.out HB.out) | (with_reducible refine Kd.C_alloc ?_ _) | (with_reducible refine Kd.C_drewN ?_ _) | (with_reducible refine Kd.C_drew ?_))); (case side2 => exact HC1.out); rintro e w44 ⟨rfl, hb⟩; refine ⟨_, rfl, ?_⟩; have n0_ := Aside0.mk (blk_below (g := gb237) (o := .cells #[.float .f64 a0_0, .float .f64 a0_1] 35 (0, 0)) (by (with_reducible repeat (first | refine blk_drewN ?_ _ | refine blk_drew ?_ | refine blk_alloc ?_ _)); exact BK237.out) hb); have n1_ := Aside0.mk (below_step (by repeat (first | (with_reducible first | exact HB.out | apply below_alloc | apply pw_below_drewN | apply below_drew1 | refine below_set ?_ GE237.out) | exact HB.out)) hb); clear BK237; clear HB; have BK237 := n0_; have HB := n1_; clear n0_ n1_; (try clear hb); (try clear hb2); (try clear hk); (try clear hi)))
          go_ret
          exact ⟨by first | rfl | (simp [errW_none, errW_some] <;> rfl) | (simp [*, errW_none, errW_some] <;> rfl), by repeat (first | (with_reducible first | exact HB.out | apply below_alloc | apply pw_below_drewN | apply below_drew1 | refine below_set ?_ GE237.out) | exact HB.out)⟩
         ·rw [if_neg c40] at H
          have c40b0 : fgt (fval .add a2 (fval .mul (fval .quo (fval .sub t243 t244) t245) a4)) (4641240890982006784 : Nat) = false := by simpa using c40
          clear c40
          obtain rfl := Option.some.inj H
          have hcz45_0 : wc.cell? ⟨gb237, 0, none⟩ = some (.float .f64 a0_0) := (blk_cell BK237.out 0).trans rfl
          have hcz45_1 : wc.cell? ⟨gb237, 1, none⟩ = some (.float .f64 a0_1) := (blk_cell BK237.out 1).trans rfl
          have hfz45_0 := blk_frozen BK237.out 0
          have hfz45_1 := blk_frozen BK237.out 1
          go_wp2_with (first | ((with_reducible refine gate_callee (f := 43) rfl ?_); refine goesL_ (some 39) rfl rfl Try.func43 (by kernel_rfl) rfl #[.agg #[.float .f64 a0_0, .float .f64 a0_1], .float .f64 a2] rfl (by (try simp only [List.map_toArray, List.map_cons, List.map_nil]); first | done | rfl | (simp only [List.length_drop, List.length_take]; rfl)) ?_; (with_reducible refine (spec_Effort.calls kj5 a0_0 a0_1 a2 t243 _ A32.out).mono ?_); rintro e w46 ⟨rfl, hb⟩; refine ⟨_, rfl, ?_⟩; have n0_ := Aside0.mk (blk_below (g := gb237) (o := .cells #[.float .f64 a0_0, .float .f64 a0_1] 35 (0, 0)) (by (with_reducible repeat (first | refine blk_drewN ?_ _ | refine blk_drew ?_ | refine blk_alloc ?_ _)); exact BK237.out) hb); have n1_ := Aside0.mk (below_step (by repeat (first | (with_reducible first | exact HB.out | apply below_alloc | apply pw_below_drewN | apply below_drew1 | refine below_set ?_ GE237.out) | exact HB.out)) hb); clear BK237; clear HB; have BK237 := n0_; have HB := n1_; clear n0_ n1_; (try clear hb); (try clear hb2); (try clear hk); (try clear hi)) | ((with_reducible refine gate_callee (f := 44) rfl ?_); refine goesL_ (some 43) rfl rfl Try.func44 (by kernel_rfl) rfl #[.slice A1 l1.length c1, .float .f64 a2, .float .f64 a3] rfl (by (try simp only [List.map_toArray, List.map_cons, List.map_nil]); first | done | rfl | (simp only [List.length_drop, List.length_take]; rfl)) ?_; (with_reducible refine (spec_Drag.calls kj5 _ _ l1 a2 a3 t244 _ ?side1 ?side2 A33.out).mono ?_); (case side1 => repeat (first | exact (Kd.C_below HR1.out HB.out) | (with_reducible refine Kd.C_alloc ?_ _) | (with_reducible refine Kd.C_drewN ?_ _) | (with_reducible refine Kd.C_drew ?_))); (case side2 => exact HC1.out); rintro e w47 ⟨rfl, hb⟩; refine ⟨_, rfl, ?_⟩; have n0_ := Aside0.mk (blk_below (g := gb237) (o := .cells #[.float .f64 a0_0, .float .f64 a0_1] 35 (0, 0)) (by (with_reducible repeat (first | refine blk_drewN ?_ _ | refine blk_drew ?_ | refine blk_alloc ?_ _)); exact BK237.out) hb); have n1_ := Aside0.mk (below_step (by repeat (first | (with_reducible first | exact HB.out | apply below_alloc | apply pw_below_drewN | apply below_drew1 | refine below_set ?_ GE237.out) | exact HB.out)) hb); clear BK237; clear HB; have BK237 := n0_; have HB := n1_; clear n0_ n1_; (try clear hb); (try clear hb2); (try clear hk); (try clear hi)) | ((with_reducible refine gate_callee (f := 45) rfl ?_); refine goesL_ (some 46) rfl rfl Try.func45 (by kernel_rfl) rfl #[.slice A1 l1.length c1] rfl (by (try simp only [List.map_toArray, List.map_cons, List.map_nil]); first | done | rfl | (simp only [List.length_drop, List.length_take]; rfl)) ?_; (with_reducible refine (spec_Weigh.calls kj5 _ _ l1 t245 _ ?side1 ?side2 A35.out).mono ?_); (case side1 => repeat (first | exact (Kd.C_below HR1.out HB.out) | (with_reducible refine Kd.C_alloc ?_ _) | (with_reducible refine Kd.C_drewN ?_ _) | (with_reducible refine Kd.C_drew ?_))); (case side2 => exact HC1.out); rintro e w48 ⟨rfl, hb⟩; refine ⟨_, rfl, ?_⟩; have n0_ := Aside0.mk (blk_below (g := gb237) (o := .cells #[.float .f64 a0_0, .float .f64 a0_1] 35 (0, 0)) (by (with_reducible repeat (first | refine blk_drewN ?_ _ | refine blk_drew ?_ | refine blk_alloc ?_ _)); exact BK237.out) hb); have n1_ := Aside0.mk (below_step (by repeat (first | (with_reducible first | exact HB.out | apply below_alloc | apply pw_below_drewN | apply below_drew1 | refine below_set ?_ GE237.out) | exact HB.out)) hb); clear BK237; clear HB; have BK237 := n0_; have HB := n1_; clear n0_ n1_; (try clear hb); (try clear hb2); (try clear hk); (try clear hi)))
          go_ret
          exact ⟨by first | rfl | (simp [errW_none, errW_some] <;> rfl) | (simp [*, errW_none, errW_some] <;> rfl), by repeat (first | (with_reducible first | exact HB.out | apply below_alloc | apply pw_below_drewN | apply below_drew1 | refine below_set ?_ GE237.out) | exact HB.out)⟩
        ·rw [if_neg c39] at H
         have c39b0 : fgt (fval .add a2 (fval .mul (fval .quo (fval .sub t243 t244) t245) a4)) (0 : Nat) = false := by simpa using c39
         clear c39
         obtain rfl := Option.some.inj H
         have hcz49_0 : wc.cell? ⟨gb237, 0, none⟩ = some (.float .f64 a0_0) := (blk_cell BK237.out 0).trans rfl
         have hcz49_1 : wc.cell? ⟨gb237, 1, none⟩ = some (.float .f64 a0_1) := (blk_cell BK237.out 1).trans rfl
         have hfz49_0 := blk_frozen BK237.out 0
         have hfz49_1 := blk_frozen BK237.out 1
         go_wp2_with (first | ((with_reducible refine gate_callee (f := 43) rfl ?_); refine goesL_ (some 39) rfl rfl Try.func43 (by kernel_rfl) rfl #[.agg #[.float .f64 a0_0, .float .f64 a0_1], .float .f64 a2] rfl (by (try simp only [List.map_toArray, List.map_cons, List.map_nil]); first | done | rfl | (simp only [List.length_drop, List.length_take]; rfl)) ?_; (with_reducible refine (spec_Effort.calls kj5 a0_0 a0_1 a2 t243 _ A32.out).mono ?_); rintro e w50 ⟨rfl, hb⟩; refine ⟨_, rfl, ?_⟩; have n0_ := Aside0.mk (blk_below (g := gb237) (o := .cells #[.float .f64 a0_0, .float .f64 a0_1] 35 (0, 0)) (by (with_reducible repeat (first | refine blk_drewN ?_ _ | refine blk_drew ?_ | refine blk_alloc ?_ _)); exact BK237.out) hb); have n1_ := Aside0.mk (below_step (by repeat (first | (with_reducible first | exact HB.out | apply below_alloc | apply pw_below_drewN | apply below_drew1 | refine below_set ?_ GE237.out) | exact HB.out)) hb); clear BK237; clear HB; have BK237 := n0_; have HB := n1_; clear n0_ n1_; (try clear hb); (try clear hb2); (try clear hk); (try clear hi)) | ((with_reducible refine gate_callee (f := 44) rfl ?_); refine goesL_ (some 43) rfl rfl Try.func44 (by kernel_rfl) rfl #[.slice A1 l1.length c1, .float .f64 a2, .float .f64 a3] rfl (by (try simp only [List.map_toArray, List.map_cons, List.map_nil]); first | done | rfl | (simp only [List.length_drop, List.length_take]; rfl)) ?_; (with_reducible refine (spec_Drag.calls kj5 _ _ l1 a2 a3 t244 _ ?side1 ?side2 A33.out).mono ?_); (case side1 => repeat (first | exact (Kd.C_below HR1.out HB.out) | (with_reducible refine Kd.C_alloc ?_ _) | (with_reducible refine Kd.C_drewN ?_ _) | (with_reducible refine Kd.C_drew ?_))); (case side2 => exact HC1.out); rintro e w51 ⟨rfl, hb⟩; refine ⟨_, rfl, ?_⟩; have n0_ := Aside0.mk (blk_below (g := gb237) (o := .cells #[.float .f64 a0_0, .float .f64 a0_1] 35 (0, 0)) (by (with_reducible repeat (first | refine blk_drewN ?_ _ | refine blk_drew ?_ | refine blk_alloc ?_ _)); exact BK237.out) hb); have n1_ := Aside0.mk (below_step (by repeat (first | (with_reducible first | exact HB.out | apply below_alloc | apply pw_below_drewN | apply below_drew1 | refine below_set ?_ GE237.out) | exact HB.out)) hb); clear BK237; clear HB; have BK237 := n0_; have HB := n1_; clear n0_ n1_; (try clear hb); (try clear hb2); (try clear hk); (try clear hi)) | ((with_reducible refine gate_callee (f := 45) rfl ?_); refine goesL_ (some 46) rfl rfl Try.func45 (by kernel_rfl) rfl #[.slice A1 l1.length c1] rfl (by (try simp only [List.map_toArray, List.map_cons, List.map_nil]); first | done | rfl | (simp only [List.length_drop, List.length_take]; rfl)) ?_; (with_reducible refine (spec_Weigh.calls kj5 _ _ l1 t245 _ ?side1 ?side2 A35.out).mono ?_); (case side1 => repeat (first | exact (Kd.C_below HR1.out HB.out) | (with_reducible refine Kd.C_alloc ?_ _) | (with_reducible refine Kd.C_drewN ?_ _) | (with_reducible refine Kd.C_drew ?_))); (case side2 => exact HC1.out); rintro e w52 ⟨rfl, hb⟩; refine ⟨_, rfl, ?_⟩; have n0_ := Aside0.mk (blk_below (g := gb237) (o := .cells #[.float .f64 a0_0, .float .f64 a0_1] 35 (0, 0)) (by (with_reducible repeat (first | refine blk_drewN ?_ _ | refine blk_drew ?_ | refine blk_alloc ?_ _)); exact BK237.out) hb); have n1_ := Aside0.mk (below_step (by repeat (first | (with_reducible first | exact HB.out | apply below_alloc | apply pw_below_drewN | apply below_drew1 | refine below_set ?_ GE237.out) | exact HB.out)) hb); clear BK237; clear HB; have BK237 := n0_; have HB := n1_; clear n0_ n1_; (try clear hb); (try clear hb2); (try clear hk); (try clear hi)))
         go_ret
         exact ⟨by first | rfl | (simp [errW_none, errW_some] <;> rfl) | (simp [*, errW_none, errW_some] <;> rfl), by repeat (first | (with_reducible first | exact HB.out | apply below_alloc | apply pw_below_drewN | apply below_drew1 | refine below_set ?_ GE237.out) | exact HB.out)⟩
       ·rw [if_neg c38] at H
        exact absurd H (by simp)
      ·rw [if_neg c37] at H
       exact absurd H (by simp)
     ·rw [if_neg c36] at H
      exact absurd H (by simp)
    ·rw [if_neg c34] at H
     exact absurd H (by simp)

end Go.Proofs.Ytmbonjljbienkaa.PFnRide
