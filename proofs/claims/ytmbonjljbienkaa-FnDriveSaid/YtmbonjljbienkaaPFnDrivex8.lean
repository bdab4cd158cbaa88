-- Written by a program of this session (wip/tools/fltprint.py: the kit's printer, taught more).
import Derived.Test.YtmbonjljbienkaaPFnDrivex0
import Derived.Test.YtmbonjljbienkaaPFnDrivex4
import Derived.Test.YtmbonjljbienkaaPFnDrivex6
import Derived.Test.YtmbonjljbienkaaPFnDrivex7
namespace Go.Proofs.Ytmbonjljbienkaa.PFnDrive
open Go.RowKit Go.Proofs.YtmbonjljbienkaaW.PrintWords Go.Proofs.YtmbonjljbienkaaW.PrintLast Go.Proofs.YtmbonjljbienkaaW.PrintMore
attribute [local go_sem] max2_int min2_int max_two min_two max_three min_three max_four min_four   -- for this text's walks alone
set_option linter.unusedVariables false
set_option linter.unusedSimpArgs false

/-! ### spec_Drive: function 21 -/
mutual
def spec_Drive.j0 : Nat → Int → List (S51) → List Int → Int → Bool → Option ((List (S51)) × Int)
 | 0, _, _, _, _, _ => none
 | k + 1, x0, x1, x2, x3, x28 => if x28 = true then (some (([] : List (S51)), (-1))) else ((spec_l05Put.f k x1 (-1) 0 0 false).bind fun t310 => (spec_Drive.l0 k x0 x2 x3 t310 0 0))
def spec_Drive.l0 : Nat → Int → List Int → Int → List (S51) → Int → Int → Option ((List (S51)) × Int)
 | 0, _, _, _, _, _, _ => none
 | k + 1, x0, x2, x3, x10, x11, x12 => if x12 < (x2.length : Int) then ((some (([] : List (S51)) : List (S51))).bind fun y313 => (if 0 ≤ x12 then (if (rd x2 x12) ≥ 0 then (spec_Drive.j2 k x0 x2 x3 x10 x11 x12 y313 false ((Int.tmod (rd x2 x12) 2) == 0)) else (spec_Drive.j2 k x0 x2 x3 x10 x11 x12 y313 false false)) else (none))) else (some (x10, x11))
def spec_Drive.j2 : Nat → Int → List Int → Int → List (S51) → Int → Int → List (S51) → Bool → Bool → Option ((List (S51)) × Int)
 | 0, _, _, _, _, _, _, _, _, _ => none
 | k + 1, x0, x2, x3, x10, x11, x12, x13, x14, x51 => if x51 = true then (if 0 ≤ x12 then (if x12 < (x2.length : Int) then ((spec_Forward.f k x0 x10 (wrap64 (Int.tdiv (rd x2 x12) 2)) x3).bind fun bt319 => (if bt319.2 = true then (spec_Drive.l0 k x0 x2 x3 bt319.1 x11 (wrap64 (x12 + 1))) else (spec_Drive.l0 k x0 x2 x3 x10 (wrap64 (x11 + 1)) (wrap64 (x12 + 1))))) else (none)) else (none)) else (if 0 ≤ x12 then (if x12 < (x2.length : Int) then (if (rd x2 x12) ≥ 0 then ((spec_Shrink.f k x0 x10 (wrap64 (Int.tdiv (rd x2 x12) 2))).bind fun bt325 => (if bt325.2 = true then (spec_Drive.l0 k x0 x2 x3 bt325.1 x11 (wrap64 (x12 + 1))) else (spec_Drive.l0 k x0 x2 x3 x10 (wrap64 (x11 + 1)) (wrap64 (x12 + 1))))) else (if x14 = true then (spec_Drive.l0 k x0 x2 x3 x13 x11 (wrap64 (x12 + 1))) else (spec_Drive.l0 k x0 x2 x3 x10 (wrap64 (x11 + 1)) (wrap64 (x12 + 1))))) else (none)) else (none))
end
def spec_Drive.f (k : Nat) (a0 : Int) (l1 : List (S51)) (l2 : List Int) (a3 : Int) : Option ((List (S51)) × Int) := (spec_TrainsOk.f k a0 l1).bind fun t308 => (if t308 = true then ((spec_l01In.f a3 0 3).bind fun t309 => (if t309 = true then (spec_Drive.j0 k a0 l1 l2 a3 (decide ((l2.length : Int) > 300))) else (spec_Drive.j0 k a0 l1 l2 a3 true))) else (spec_Drive.j0 k a0 l1 l2 a3 true))
theorem spec_Drive.mono_l : ∀ k, (∀ y0 y1 y2 y3 y4, LeO (spec_Drive.j0 k y0 y1 y2 y3 y4) (spec_Drive.j0 (k + 1) y0 y1 y2 y3 y4)) ∧ (∀ y0 y1 y2 y3 y4 y5, LeO (spec_Drive.l0 k y0 y1 y2 y3 y4 y5) (spec_Drive.l0 (k + 1) y0 y1 y2 y3 y4 y5)) ∧ (∀ y0 y1 y2 y3 y4 y5 y6 y7 y8, LeO (spec_Drive.j2 k y0 y1 y2 y3 y4 y5 y6 y7 y8) (spec_Drive.j2 (k + 1) y0 y1 y2 y3 y4 y5 y6 y7 y8))
 | 0 => ⟨fun _ _ _ _ _ r h => by simp [spec_Drive.j0] at h, fun _ _ _ _ _ _ r h => by simp [spec_Drive.l0] at h, fun _ _ _ _ _ _ _ _ _ r h => by simp [spec_Drive.j2] at h⟩
 | k + 1 => by
  obtain ⟨ih0, ih1, ih2⟩ := spec_Drive.mono_l k
  refine ⟨?_, ?_, ?_⟩
  ·intro y0 y1 y2 y3 y4
   unfold spec_Drive.j0
   repeat' first
   | (with_reducible exact ih0 _ _ _ _ _)
   | (with_reducible exact ih1 _ _ _ _ _ _)
   | (with_reducible exact ih2 _ _ _ _ _ _ _ _ _)
   | (with_reducible exact spec_Forward.mono _ _ _ _ _)
   | (with_reducible exact spec_Shrink.mono _ _ _ _)
   | (with_reducible exact spec_TrainsOk.mono _ _ _)
   | (with_reducible exact spec_l05Put.mono _ _ _ _ _ _)
   | (with_reducible exact LeO.refl _)
   | (with_reducible exact LeO.none _)
   | (with_reducible refine LeO.ite ?_ ?_)
   | (with_reducible refine LeO.bind ?_ (fun _ => ?_))
   | exact ih0 _ _ _ _ _
   | exact ih1 _ _ _ _ _ _
   | exact ih2 _ _ _ _ _ _ _ _ _
   | exact spec_Forward.mono _ _ _ _ _
   | exact spec_Shrink.mono _ _ _ _
   | exact spec_TrainsOk.mono _ _ _
   | exact spec_l05Put.mono _ _ _ _ _ _
   | exact LeO.none _
   | refine LeO.ite ?_ ?_
   | refine LeO.bind ?_ (fun _ => ?_)
  ·intro y0 y1 y2 y3 y4 y5
   unfold spec_Drive.l0
   repeat' first
   | (with_reducible exact ih0 _ _ _ _ _)
   | (with_reducible exact ih1 _ _ _ _ _ _)
   | (with_reducible exact ih2 _ _ _ _ _ _ _ _ _)
   | (with_reducible exact spec_Forward.mono _ _ _ _ _)
   | (with_reducible exact spec_Shrink.mono _ _ _ _)
   | (with_reducible exact spec_TrainsOk.mono _ _ _)
   | (with_reducible exact spec_l05Put.mono _ _ _ _ _ _)
   | (with_reducible exact LeO.refl _)
   | (with_reducible exact LeO.none _)
   | (with_reducible refine LeO.ite ?_ ?_)
   | (with_reducible refine LeO.bind ?_ (fun _ => ?_))
   | exact ih0 _ _ _ _ _
   | exact ih1 _ _ _ _ _ _
   | exact ih2 _ _ _ _ _ _ _ _ _
   | exact spec_Forward.mono _ _ _ _ _
   | exact spec_Shrink.mono _ _ _ _
   | exact spec_TrainsOk.mono _ _ _
   | exact spec_l05Put.mono _ _ _ _ _ _
   | exact LeO.none _
   | refine LeO.ite ?_ ?_
   | refine LeO.bind ?_ (fun _ => ?_)
  ·intro y0 y1 y2 y3 y4 y5 y6 y7 y8
   unfold spec_Drive.j2
   repeat' first
   | (with_reducible exact ih0 _ _ _ _ _)
   | (with_reducible exact ih1 _ _ _ _ _ _)
   | (with_reducible exact ih2 _ _ _ _ _ _ _ _ _)
   | (with_reducible exact spec_Forward.mono _ _ _ _ _)
   | (with_reducible exact spec_Shrink.mono _ _ _ _)
   | (with_reducible exact spec_TrainsOk.mono _ _ _)
   | (with_reducible exact spec_l05Put.mono _ _ _ _ _ _)
   | (with_reducible exact LeO.refl _)
   | (with_reducible exact LeO.none _)
   | (with_reducible refine LeO.ite ?_ ?_)
   | (with_reducible refine LeO.bind ?_ (fun _ => ?_))
   | exact ih0 _ _ _ _ _
   | exact ih1 _ _ _ _ _ _
   | exact ih2 _ _ _ _ _ _ _ _ _
   | exact spec_Forward.mono _ _ _ _ _
   | exact spec_Shrink.mono _ _ _ _
   | exact spec_TrainsOk.mono _ _ _
   | exact spec_l05Put.mono _ _ _ _ _ _
   | exact LeO.none _
   | refine LeO.ite ?_ ?_
   | refine LeO.bind ?_ (fun _ => ?_)
theorem spec_Drive.mono : ∀ a0 a1 a2 a3 k, LeO (spec_Drive.f k a0 a1 a2 a3) (spec_Drive.f (k + 1) a0 a1 a2 a3) := by
 intro a0 a1 a2 a3 k
 obtain ⟨ih0, ih1, ih2⟩ := spec_Drive.mono_l k
 unfold spec_Drive.f
 repeat' first
   | (with_reducible exact ih0 _ _ _ _ _)
   | (with_reducible exact ih1 _ _ _ _ _ _)
   | (with_reducible exact ih2 _ _ _ _ _ _ _ _ _)
   | (with_reducible exact spec_Forward.mono _ _ _ _ _)
   | (with_reducible exact spec_Shrink.mono _ _ _ _)
   | (with_reducible exact spec_TrainsOk.mono _ _ _)
   | (with_reducible exact spec_l05Put.mono _ _ _ _ _ _)
   | (with_reducible exact LeO.refl _)
   | (with_reducible exact LeO.none _)
   | (with_reducible refine LeO.ite ?_ ?_)
   | (with_reducible refine LeO.bind ?_ (fun _ => ?_))
   | exact ih0 _ _ _ _ _
   | exact ih1 _ _ _ _ _ _
   | exact ih2 _ _ _ _ _ _ _ _ _
   | exact spec_Forward.mono _ _ _ _ _
   | exact spec_Shrink.mono _ _ _ _
   | exact spec_TrainsOk.mono _ _ _
   | exact spec_l05Put.mono _ _ _ _ _ _
   | exact LeO.none _
   | refine LeO.ite ?_ ?_
   | refine LeO.bind ?_ (fun _ => ?_)
set_option maxHeartbeats 8000000 in
set_option maxRecDepth 100000 in
theorem spec_Drive.calls (k : Nat) (a0 : Int) (A1 : Option Addr) (c1 : Nat) (l1 : List (S51)) (A2 : Option Addr) (c2 : Nat) (l2 : List Int) (a3 : Int) (r1 : List (S51)) (r2 : Int) (w : World) (hr1 : Kd.C k51 w A1 l1.length l1) (hc1 : l1.length ≤ c1) (hr2 : Kd.C (Kd.int .i64) w A2 l2.length l2) (hc2 : l2.length ≤ c2) (h : spec_Drive.f k a0 l1 l2 a3 = some (r1, r2)) :
  Calls Try.prog 21 #[.int .i64 a0, .slice A1 l1.length c1, .slice A2 l2.length c2, .int .i64 a3] w fun e w' => ∃ v0_ : Value, e = .returned (.tuple #[v0_, .int .i64 r2]) ∧ Kd.R k51 51 w' w.heap.size (fun _ => True) v0_ r1 ∧ Below w.heap.size w w' := by
 have hu51 := Try.underlying51
 have HR1 := Aside0.mk hr1
 have HC1 := Aside0.mk hc1
 clear hr1 hc1
 have HR2 := Aside0.mk hr2
 have HC2 := Aside0.mk hc2
 clear hr2 hc2
 have HB := Aside0.mk (Below.refl w.heap.size w)
 have H : ((spec_TrainsOk.f k a0 l1).bind fun t308 => (if t308 = true then ((spec_l01In.f a3 0 3).bind fun t309 => (if t309 = true then (spec_Drive.j0 k a0 l1 l2 a3 (decide ((l2.length : Int) > 300))) else (spec_Drive.j0 k a0 l1 l2 a3 true))) else (spec_Drive.j0 k a0 l1 l2 a3 true))) = some (r1, r2) := h
 clear h
 have HC5 := Aside0.mk H
 clear H
 go_enter Try.func21, Try.ntmps21
 go_upto_region 1 with (fail)
 go_cut [28] (fun v28 wc => ∃ (kq : Nat) (x28_4 : Bool), v28 = .bool x28_4 ∧ Aside0 (spec_Drive.j0 kq a0 l1 l2 a3 x28_4 = some (r1, r2)) ∧ Aside0 (kq ≤ k) ∧ Aside0 (Below w.heap.size w wc))
 case first =>
  have H := HC5.out
  clear HC5
  replace H := Option.bind_eq_some_iff.mp H
  obtain ⟨t308, A60, H⟩ := H
  replace H : (if t308 = true then ((spec_l01In.f a3 0 3).bind fun t309 => (if t309 = true then (spec_Drive.j0 k a0 l1 l2 a3 (decide ((l2.length : Int) > 300))) else (spec_Drive.j0 k a0 l1 l2 a3 true))) else (spec_Drive.j0 k a0 l1 l2 a3 true)) = some (r1, r2) := H
  have A6 := Aside0.mk A60
  clear A60
  by_cases c7 : t308 = true
  ·subst c7
   have H1 : ((spec_l01In.f a3 0 3).bind fun t309 => (if t309 = true then (spec_Drive.j0 k a0 l1 l2 a3 (decide ((l2.length : Int) > 300))) else (spec_Drive.j0 k a0 l1 l2 a3 true))) = some (r1, r2) := by (first | (rw [if_pos rfl] at H; exact H) | rfl)
   clear H
   have H := H1
   clear H1
   replace H := Option.bind_eq_some_iff.mp H
   obtain ⟨t309, A80, H⟩ := H
   replace H : (if t309 = true then (spec_Drive.j0 k a0 l1 l2 a3 (decide ((l2.length : Int) > 300))) else (spec_Drive.j0 k a0 l1 l2 a3 true)) = some (r1, r2) := H
   have A8 := Aside0.mk A80
   clear A80
   by_cases c9 : t309 = true
   ·subst c9
    have H1 : (spec_Drive.j0 k a0 l1 l2 a3 (decide ((l2.length : Int) > 300))) = some (r1, r2) := by (first | (rw [if_pos rfl] at H; exact H) | rfl)
    clear H
    have H := H1
    clear H1
    have H' := Aside0.mk H
    clear H
    go_wp2_with (first | ((with_reducible refine gate_callee (f := 50) rfl ?_); refine goesL_ (some 17) rfl rfl Try.func50 (by kernel_rfl) rfl #[.int .i64 a0, .slice A1 l1.length c1] rfl (by (try simp only [List.map_toArray, List.map_cons, List.map_nil]); first | done | rfl | (simp only [List.length_drop, List.length_take]; rfl)) ?_; (with_reducible refine (spec_TrainsOk.calls k a0 _ _ l1 true _ ?side1 ?side2 A6.out).mono ?_); (case side1 => repeat (first | exact (Kd.C_below HR1.out HB.out) | (with_reducible refine Kd.C_alloc ?_ _) | (with_reducible refine Kd.C_drewN ?_ _) | (with_reducible refine Kd.C_drew ?_))); (case side2 => exact HC1.out); rintro e w10 ⟨rfl, hb⟩; refine ⟨_, rfl, ?_⟩; have n0_ := Aside0.mk (below_step (by repeat (first | (with_reducible first | exact HB.out | apply below_alloc | apply pw_below_drewN | apply below_drew1) | exact HB.out)) hb); clear HB; have HB := n0_; clear n0_; (try clear hb); (try clear hb2); (try clear hk); (try clear hi)) | (go_at_call 51; (with_reducible refine (spec_l01In.calls a3 0 3 true _ A8.out).mono ?_); rintro e w' ⟨rfl, ⟨nd, rfl⟩⟩))
    go_meet
    case rel => exact ⟨_, (decide ((l2.length : Int) > 300)), (by first | rfl | (simp; done) | (simp [*]; done)), H', ⟨by first | omega | exact Nat.le_refl _⟩, ⟨by repeat (first | (with_reducible first | exact HB.out | apply below_alloc | apply pw_below_drewN | apply below_drew1) | exact HB.out)⟩⟩
   ·replace c9 := Bool.eq_false_iff.mpr c9
    subst c9
    have H1 : (spec_Drive.j0 k a0 l1 l2 a3 true) = some (r1, r2) := by (first | (rw [if_neg (show ¬ (false = true) by decide)] at H; exact H) | rfl)
    clear H
    have H := H1
    clear H1
    have H' := Aside0.mk H
    clear H
    go_wp2_with (first | ((with_reducible refine gate_callee (f := 50) rfl ?_); refine goesL_ (some 17) rfl rfl Try.func50 (by kernel_rfl) rfl #[.int .i64 a0, .slice A1 l1.length c1] rfl (by (try simp only [List.map_toArray, List.map_cons, List.map_nil]); first | done | rfl | (simp only [List.length_drop, List.length_take]; rfl)) ?_; (with_reducible refine (spec_TrainsOk.calls k a0 _ _ l1 true _ ?side1 ?side2 A6.out).mono ?_); (case side1 => repeat (first | exact (Kd.C_below HR1.out HB.out) | (with_reducible refine Kd.C_alloc ?_ _) | (with_reducible refine Kd.C_drewN ?_ _) | (with_reducible refine Kd.C_drew ?_))); (case side2 => exact HC1.out); rintro e w11 ⟨rfl, hb⟩; refine ⟨_, rfl, ?_⟩; have n0_ := Aside0.mk (below_step (by repeat (first | (with_reducible first | exact HB.out | apply below_alloc | apply pw_below_drewN | apply below_drew1) | exact HB.out)) hb); clear HB; have HB := n0_; clear n0_; (try clear hb); (try clear hb2); (try clear hk); (try clear hi)) | (go_at_call 51; (with_reducible refine (spec_l01In.calls a3 0 3 false _ A8.out).mono ?_); rintro e w' ⟨rfl, ⟨nd, rfl⟩⟩))
    go_meet
    case rel => exact ⟨_, (true), (by first | rfl | (simp; done) | (simp [*]; done)), H', ⟨by first | omega | exact Nat.le_refl _⟩, ⟨by repeat (first | (with_reducible first | exact HB.out | apply below_alloc | apply pw_below_drewN | apply below_drew1) | exact HB.out)⟩⟩
  ·replace c7 := Bool.eq_false_iff.mpr c7
   subst c7
   have H1 : (spec_Drive.j0 k a0 l1 l2 a3 true) = some (r1, r2) := by (first | (rw [if_neg (show ¬ (false = true) by decide)] at H; exact H) | rfl)
   clear H
   have H := H1
   clear H1
   have H' := Aside0.mk H
   clear H
   go_wp2_with (first | ((with_reducible refine gate_callee (f := 50) rfl ?_); refine goesL_ (some 17) rfl rfl Try.func50 (by kernel_rfl) rfl #[.int .i64 a0, .slice A1 l1.length c1] rfl (by (try simp only [List.map_toArray, List.map_cons, List.map_nil]); first | done | rfl | (simp only [List.length_drop, List.length_take]; rfl)) ?_; (with_reducible refine (spec_TrainsOk.calls k a0 _ _ l1 false _ ?side1 ?side2 A6.out).mono ?_); (case side1 => repeat (first | exact (Kd.C_below HR1.out HB.out) | (with_reducible refine Kd.C_alloc ?_ _) | (with_reducible refine Kd.C_drewN ?_ _) | (with_reducible refine Kd.C_drew ?_))); (case side2 => exact HC1.out); rintro e w12 ⟨rfl, hb⟩; refine ⟨_, rfl, ?_⟩; have n0_ := Aside0.mk (below_step (by repeat (first | (with_reducible first | exact HB.out | apply below_alloc | apply pw_below_drewN | apply below_drew1) | exact HB.out)) hb); clear HB; have HB := n0_; clear n0_; (try clear hb); (try clear hb2); (try clear hk); (try clear hi)))
   go_meet
   case rel => exact ⟨_, (true), (by first | rfl | (simp; done) | (simp [*]; done)), H', ⟨by first | omega | exact Nat.le_refl _⟩, ⟨by repeat (first | (with_reducible first | exact HB.out | apply below_alloc | apply pw_below_drewN | apply below_drew1) | exact HB.out)⟩⟩
 case rest =>
  clear HC5
  try clear c1
  try clear c2
  try clear p2
  try clear c5
  try clear c7
  try clear c9
  obtain ⟨kq, x28_4, rfl, HA, HJ4, HB⟩ := hcut
  cases kq with
  | zero => exact absurd HA.out (by simp [spec_Drive.j0])
  | succ kj4 =>
   have H := HA.out
   clear HA
   simp only [spec_Drive.j0] at H
   by_cases c13 : x28_4 = true
   ·subst c13
    have H1 : (some (([] : List (S51)), (-1))) = some (r1, r2) := by (first | (rw [if_pos rfl] at H; exact H) | rfl)
    clear H
    have H := H1
    clear H1
    simp only [Option.some.injEq, Prod.mk.injEq] at H
    obtain ⟨rfl, rfl⟩ := H
    go_wp2
    go_ret2
    exact ⟨_, by first | rfl | (simp [errW_none, errW_some] <;> rfl) | (simp [*, errW_none, errW_some] <;> rfl), by first | exact Kd.R_nil _ _ _ _ _ | exact Kd.N_nil _ _ _ _ _ | exact Kd.V_nil _ _ _ _ _ | exact Kd.Q_nil _ _ _ _ _ | exact Kd.S_nil _ _ _ _ _, by repeat (first | (with_reducible first | exact HB.out | apply below_alloc | apply pw_below_drewN | apply below_drew1) | exact HB.out)⟩
   ·replace c13 := Bool.eq_false_iff.mpr c13
    subst c13
    have H1 : ((spec_l05Put.f kj4 l1 (-1) 0 0 false).bind fun t310 => (spec_Drive.l0 kj4 a0 l2 a3 t310 0 0)) = some (r1, r2) := by (first | (rw [if_neg (show ¬ (false = true) by decide)] at H; exact H) | rfl)
    clear H
    have H := H1
    clear H1
    replace H := Option.bind_eq_some_iff.mp H
    obtain ⟨t310, A140, H⟩ := H
    replace H : (spec_Drive.l0 kj4 a0 l2 a3 t310 0 0) = some (r1, r2) := H
    have A14 := Aside0.mk A140
    clear A140
    have H' := Aside0.mk H
    clear H
    go_wp2_with (first | ((with_reducible refine gate_callee (f := 52) rfl ?_); refine goesL_ (some 31) rfl rfl Try.func52 (by kernel_rfl) rfl #[.slice A1 l1.length c1, .int .i64 (-1), .agg #[.int .i64 0, .int .i64 0], .bool false] rfl (by (try simp only [List.map_toArray, List.map_cons, List.map_nil]); first | done | rfl | (simp only [List.length_drop, List.length_take]; rfl)) ?_; (with_reducible refine (spec_l05Put.calls kj4 _ _ l1 (-1) 0 0 false t310 _ ?side1 ?side2 A14.out).mono ?_); (case side1 => repeat (first | exact (Kd.C_below HR1.out HB.out) | (with_reducible refine Kd.C_alloc ?_ _) | (with_reducible refine Kd.C_drewN ?_ _) | (with_reducible refine Kd.C_drew ?_))); (case side2 => exact HC1.out); rintro e w15 ⟨v311, rfl, ho0, hb⟩; refine ⟨_, rfl, ?_⟩; have n0_ := Aside0.mk (Kd.R_lower ho0 (below_size (by repeat (first | (with_reducible first | exact HB.out | apply below_alloc | apply pw_below_drewN | apply below_drew1) | exact HB.out)))); have n1_ := Aside0.mk (below_step (by repeat (first | (with_reducible first | exact HB.out | apply below_alloc | apply pw_below_drewN | apply below_drew1) | exact HB.out)) hb); clear HB; have HO312 := n0_; have HB := n1_; clear n0_ n1_; (try clear hb); (try clear hb2); (try clear hk); (try clear hi); (try clear ho0)))
    go_loopg [10, 11, 12] kj4 (fun kq v10 v11 v12 w' => ∃ (x10_2 : List (S51)) (x11_2 : Int) (x12_2 : Int), v11 = .int .i64 x11_2 ∧ v12 = .int .i64 x12_2 ∧ Aside0 (spec_Drive.l0 kq a0 l2 a3 x10_2 x11_2 x12_2 = some (r1, r2)) ∧ Aside0 (kq ≤ kj4) ∧ Aside0 (Kd.R k51 51 w' w.heap.size (fun _ => True) v10 x10_2) ∧ Aside0 (Below w.heap.size w w'))
    case atStart => exact ⟨(t310), (0), (0), (by first | rfl | (simp; done) | (simp [*]; done)), (by first | rfl | (simp; done) | (simp [*]; done)), H', ⟨Nat.le_refl _⟩, ⟨by (with_reducible repeat (first | apply Kd.R_alloc | apply Kd.R_drewN | apply Kd.R_drew)); exact HO312.out⟩, ⟨by repeat (first | (with_reducible first | exact HB.out | apply below_alloc | apply pw_below_drewN | apply below_drew1) | exact HB.out)⟩⟩
    case round =>
     clear H'
     try clear c1
     try clear c2
     try clear p2
     try clear c5
     try clear c7
     try clear c9
     try clear c13
     try clear p2
     obtain ⟨x10_2, x11_2, x12_2, rfl, rfl, HA, HK2, HO_10, HB⟩ := hrel
     cases gk with
     | zero => exact absurd HA.out (by simp [spec_Drive.l0])
     | succ k2 =>
      have H := HA.out
      clear HA
      simp only [spec_Drive.l0] at H
      by_cases c16 : x12_2 < (l2.length : Int)
      ·rw [if_pos c16] at H
       have c16b0 : decide (x12_2 < (l2.length : Int)) = true := decide_eq_true c16
       clear c16
       obtain ⟨y313, hy313⟩ : ∃ y_ : List (S51), y_ = (([] : List (S51))) := ⟨_, rfl⟩
       replace H : (if 0 ≤ x12_2 then (if (rd l2 x12_2) ≥ 0 then (spec_Drive.j2 k2 a0 l2 a3 x10_2 x11_2 x12_2 y313 false ((Int.tmod (rd l2 x12_2) 2) == 0)) else (spec_Drive.j2 k2 a0 l2 a3 x10_2 x11_2 x12_2 y313 false false)) else (none)) = some (r1, r2) := by first | (rw [hy313]; with_reducible exact H) | (have H2_ := (Option.bind_some _ _).symm.trans H; rw [hy313]; with_reducible exact H2_) | (have H2_ := (Option.bind_some _ _).symm.trans H; with_reducible exact H2_) | with_reducible exact H | (rw [hy313]; exact H) | exact H
       have Ny313 := Aside0.mk hy313
       clear hy313
       have HC17 := Aside0.mk H
       clear H
       go_upto_region 10 with (first | ((with_reducible refine gate_dst (N := 38) rfl ?_); (try (refine gate_guard (by rfl) ?_; dsimp only)); refine Kd.R_lit k51 _ 51 ?hg (N := 38) ?hd (xs := ([] : List (S51))) (inner := []) (ok := fun _ => True) (okp := fun _ => True) ?hr ?hp (fun _ hk => hk) trivial (Below.refl _ _) (Nat.le_refl _) (by simp) ?_; (case hd => rfl); (case hg => rfl); (case hr => first | (go_simp; done) | (go_simp; rfl)); (case hp => exact (Reps.none _ _)); intro v314 w18 ho19 hb hg_ hnew_; clear hg_ hnew_; (first | rw [← Ny313.out] at ho19 | (simp only [Int.reduceToNat] at ho19; rw [← Ny313.out] at ho19)); have n0_ := Aside0.mk (Kd.R_elder' (by (with_reducible repeat (first | apply Kd.R_alloc | apply Kd.R_drewN | apply Kd.R_drew)); exact HO_10.out) (Kd.R_base ho19) hb); have n1_ := Aside0.mk (Kd.R_lower (Kd.R_new' ho19 (Kd.R_lt (by (with_reducible repeat (first | apply Kd.R_alloc | apply Kd.R_drewN | apply Kd.R_drew)); exact HO_10.out))) (below_size (by repeat (first | (with_reducible first | exact HB.out | apply below_alloc | apply pw_below_drewN | apply below_drew1) | exact HB.out)))); have n2_ := Aside0.mk (below_step (by repeat (first | (with_reducible first | exact HB.out | apply below_alloc | apply pw_below_drewN | apply below_drew1) | exact HB.out)) hb); clear HO_10; clear HB; have HO_10 := n0_; have HO315 := n1_; have HB := n2_; clear n0_ n1_ n2_; clear hb ho19))
       (try simp only [Act.put, List.setIfInBounds_toArray, List.set_cons_zero, List.set_cons_succ])
       go_cut [51] (fun v51 wc => ∃ (kq : Nat) (x51_16 : Bool), v51 = .bool x51_16 ∧ Aside0 (spec_Drive.j2 kq a0 l2 a3 x10_2 x11_2 x12_2 y313 false x51_16 = some (r1, r2)) ∧ Aside0 (kq ≤ k2) ∧ Aside0 (Kd.R k51 51 wc w.heap.size (fun k_ => some k_ ≠ (v314 : Value).ownBlock) u10 x10_2) ∧ Aside0 (Kd.R k51 51 wc w.heap.size (fun k_ => some k_ ≠ (u10 : Value).ownBlock) v314 y313) ∧ Aside0 (Below w.heap.size w wc))
       case first =>
        have H := HC17.out
        clear HC17
        by_cases c20 : 0 ≤ x12_2
        ·rw [if_pos c20] at H
         have c20b0 : decide (0 ≤ x12_2) = true := decide_eq_true c20
         clear c20
         (first | rw [c20b0] | (simp only [i64_w, i32_w]; rw [c20b0]) | rw [c20b1] | skip)
         by_cases c21 : (rd l2 x12_2) ≥ 0
         ·rw [if_pos c21] at H
          have c21b0 : decide (0 ≤ (rd l2 x12_2)) = true := decide_eq_true c21
          clear c21
          have H' := Aside0.mk H
          clear H
          have p316 : 0 ≤ (x12_2 : Int) := of_decide_eq_true (by first | (with_reducible assumption) | assumption)
          have q316 : x12_2 < (l2.length : Int) := of_decide_eq_true (by first | (with_reducible assumption) | assumption)
          obtain ⟨ad316, e316, hx316_0⟩ := Kd.at_int HR2.out x12_2 p316 q316
          cases e316
          replace hx316_0 := (HB.out.cell (World.block_lt_of_cell? w _ hx316_0)).trans hx316_0
          replace p316 := eq_true p316
          replace q316 := eq_true q316
          have p317 : 0 ≤ (x12_2 : Int) := of_decide_eq_true (by first | (with_reducible assumption) | assumption)
          have q317 : x12_2 < (l2.length : Int) := of_decide_eq_true (by first | (with_reducible assumption) | assumption)
          obtain ⟨ad317, e317, hx317_0⟩ := Kd.at_int HR2.out x12_2 p317 q317
          obtain rfl : ad316 = ad317 := (by injection e317)
          replace hx317_0 := (HB.out.cell (World.block_lt_of_cell? w _ hx317_0)).trans hx317_0
          replace p317 := eq_true p317
          replace q317 := eq_true q317
          go_wp2
          go_meet
          case rel => exact ⟨_, (((Int.tmod (rd l2 x12_2) 2) == 0)), (by first | rfl | (simp; done) | (simp [*]; done)), H', ⟨by have := HJ4.out; have := HK2.out; first | omega | exact Nat.le_refl _⟩, ⟨by (with_reducible repeat (first | apply Kd.R_alloc | apply Kd.R_drewN | apply Kd.R_drew)); exact Kd.R_mono HO_10.out (fun _ hk => hk.2)⟩, ⟨by (with_reducible repeat (first | apply Kd.R_alloc | apply Kd.R_drewN | apply Kd.R_drew)); exact Kd.R_mono HO315.out (fun _ hk => hk.2)⟩, ⟨by repeat (first | (with_reducible first | exact HB.out | apply below_alloc | apply pw_below_drewN | apply below_drew1) | exact HB.out)⟩⟩
         ·rw [if_neg c21] at H
          have c21b0 : decide (0 ≤ (rd l2 x12_2)) = false := decide_eq_false c21
          clear c21
          have H' := Aside0.mk H
          clear H
          have p316 : 0 ≤ (x12_2 : Int) := of_decide_eq_true (by first | (with_reducible assumption) | assumption)
          have q316 : x12_2 < (l2.length : Int) := of_decide_eq_true (by first | (with_reducible assumption) | assumption)
          obtain ⟨ad316, e316, hx316_0⟩ := Kd.at_int HR2.out x12_2 p316 q316
          cases e316
          replace hx316_0 := (HB.out.cell (World.block_lt_of_cell? w _ hx316_0)).trans hx316_0
          replace p316 := eq_true p316
          replace q316 := eq_true q316
          go_wp2
          go_meet
          case rel => exact ⟨_, (false), (by first | rfl | (simp; done) | (simp [*]; done)), H', ⟨by have := HJ4.out; have := HK2.out; first | omega | exact Nat.le_refl _⟩, ⟨by (with_reducible repeat (first | apply Kd.R_alloc | apply Kd.R_drewN | apply Kd.R_drew)); exact Kd.R_mono HO_10.out (fun _ hk => hk.2)⟩, ⟨by (with_reducible repeat (first | apply Kd.R_alloc | apply Kd.R_drewN | apply Kd.R_drew)); exact Kd.R_mono HO315.out (fun _ hk => hk.2)⟩, ⟨by repeat (first | (with_reducible first | exact HB.out | apply below_alloc | apply pw_below_drewN | apply below_drew1) | exact HB.out)⟩⟩
        ·rw [if_neg c20] at H
         exact absurd H (by simp)
       case rest =>
        clear HC17
        try clear c1
        try clear c2
        try clear p2
        try clear p3
        try clear q3
        try clear hx3
        try clear c5
        try clear c7
        try clear c9
        try clear c13
        try clear c16
        try clear c16b0
        try clear c20
        try clear c20b0
        try clear c20b1
        try clear c21
        try clear c21b0
        try clear hx316_0
        try clear hx317_0
        try clear p2
        try clear p316
        try clear p317
        try clear q316
        try clear q317
        obtain ⟨kq, x51_16, rfl, HA, HJ16, HO_10, HO_13, HB⟩ := hcut
        cases kq with
        | zero => exact absurd HA.out (by simp [spec_Drive.j2])
        | succ kj16 =>
         have H := HA.out
         clear HA
         simp only [spec_Drive.j2] at H
         by_cases c22 : x51_16 = true
         ·subst c22
          have H1 : (if 0 ≤ x12_2 then (if x12_2 < (l2.length : Int) then ((spec_Forward.f kj16 a0 x10_2 (wrap64 (Int.tdiv (rd l2 x12_2) 2)) a3).bind fun bt319 => (if bt319.2 = true then (spec_Drive.l0 kj16 a0 l2 a3 bt319.1 x11_2 (wrap64 (x12_2 + 1))) else (spec_Drive.l0 kj16 a0 l2 a3 x10_2 (wrap64 (x11_2 + 1)) (wrap64 (x12_2 + 1))))) else (none)) else (none)) = some (r1, r2) := by (first | (rw [if_pos rfl] at H; exact H) | rfl)
          clear H
          have H := H1
          clear H1
          by_cases c23 : 0 ≤ x12_2
          ·rw [if_pos c23] at H
           have c23b0 : decide (0 ≤ x12_2) = true := decide_eq_true c23
           clear c23
           by_cases c24 : x12_2 < (l2.length : Int)
           ·rw [if_pos c24] at H
            have c24b0 : decide (x12_2 < (l2.length : Int)) = true := decide_eq_true c24
            clear c24
            replace H := Option.bind_eq_some_iff.mp H
            obtain ⟨⟨t319, t320⟩, A250, H⟩ := H
            replace H : (if t320 = true then (spec_Drive.l0 kj16 a0 l2 a3 t319 x11_2 (wrap64 (x12_2 + 1))) else (spec_Drive.l0 kj16 a0 l2 a3 x10_2 (wrap64 (x11_2 + 1)) (wrap64 (x12_2 + 1)))) = some (r1, r2) := H
            have A25 := Aside0.mk A250
            clear A250
            by_cases c26 : t320 = true
            ·subst c26
             have H1 : (spec_Drive.l0 kj16 a0 l2 a3 t319 x11_2 (wrap64 (x12_2 + 1))) = some (r1, r2) := by (first | (rw [if_pos rfl] at H; exact H) | rfl)
             clear H
             have H := H1
             clear H1
             have H' := Aside0.mk H
             clear H
             have p318 : 0 ≤ (x12_2 : Int) := of_decide_eq_true (by first | (with_reducible assumption) | assumption)
             have q318 : x12_2 < (l2.length : Int) := of_decide_eq_true (by first | (with_reducible assumption) | assumption)
             obtain ⟨ad318, e318, hx318_0⟩ := Kd.at_int HR2.out x12_2 p318 q318
             cases e318
             replace hx318_0 := (HB.out.cell (World.block_lt_of_cell? w _ hx318_0)).trans hx318_0
             replace p318 := eq_true p318
             replace q318 := eq_true q318
             obtain ⟨Ao27, co27, eo27⟩ := Kd.R_slice HO_10.out
             subst eo27
             go_wp2_with (first | ((with_reducible refine gate_callee (f := 53) rfl ?_); refine goesL_ (some 61) rfl rfl Try.func53 (by kernel_rfl) rfl #[.int .i64 a0, .slice Ao27 x10_2.length co27, .int .i64 (wrap64 (Int.tdiv (rd l2 x12_2) 2)), .int .i64 a3] rfl (by (try simp only [List.map_toArray, List.map_cons, List.map_nil]); first | done | rfl | (simp only [List.length_drop, List.length_take]; rfl)) ?_; (with_reducible refine (spec_Forward.calls kj16 a0 _ _ x10_2 (wrap64 (Int.tdiv (rd l2 x12_2) 2)) a3 t319 true _ ?side1 ?side2 A25.out).mono ?_); (case side1 => repeat (first | exact (Kd.R_reads' HO_10.out).2.2 | (with_reducible refine Kd.C_alloc ?_ _) | (with_reducible refine Kd.C_drewN ?_ _) | (with_reducible refine Kd.C_drew ?_))); (case side2 => exact (Kd.R_reads' HO_10.out).2.1); rintro e w28 ⟨v321, rfl, ho0, hb⟩; refine ⟨_, rfl, ?_⟩; have n0_ := Aside0.mk (Kd.R_elder' (by (with_reducible repeat (first | apply Kd.R_alloc | apply Kd.R_drewN | apply Kd.R_drew)); exact HO_10.out) (Kd.R_base ho0) hb); have n1_ := Aside0.mk (Kd.R_elder' (by (with_reducible repeat (first | apply Kd.R_alloc | apply Kd.R_drewN | apply Kd.R_drew)); exact HO_13.out) (Kd.R_base ho0) hb); have n2_ := Aside0.mk (Kd.R_lower (Kd.R_new' (Kd.R_new' ho0 (Kd.R_lt (by (with_reducible repeat (first | apply Kd.R_alloc | apply Kd.R_drewN | apply Kd.R_drew)); exact HO_10.out))) (Kd.R_lt (by (with_reducible repeat (first | apply Kd.R_alloc | apply Kd.R_drewN | apply Kd.R_drew)); exact HO_13.out))) (below_size (by repeat (first | (with_reducible first | exact HB.out | apply below_alloc | apply pw_below_drewN | apply below_drew1) | exact HB.out)))); have n3_ := Aside0.mk (below_step (by repeat (first | (with_reducible first | exact HB.out | apply below_alloc | apply pw_below_drewN | apply below_drew1) | exact HB.out)) hb); clear HO_10; clear HO_13; clear HB; have HO_10 := n0_; have HO_13 := n1_; have HO322 := n2_; have HB := n3_; clear n0_ n1_ n2_ n3_; (try clear hb); (try clear hb2); (try clear hk); (try clear hi); (try clear ho0)))
             go_roundg kj16
             case measure => have := HJ4.out; have := HK2.out; have := HJ16.out; omega
             case rel => exact ⟨(t319), (x11_2), (wrap64 (x12_2 + 1)), (by first | rfl | (simp; done) | (simp [*]; done)), (by first | rfl | (simp; done) | (simp [*]; done)), H', ⟨by have := HJ4.out; have := HK2.out; have := HJ16.out; omega⟩, ⟨by (with_reducible repeat (first | apply Kd.R_alloc | apply Kd.R_drewN | apply Kd.R_drew)); exact Kd.R_mono HO322.out (fun _ hk => trivial)⟩, ⟨by repeat (first | (with_reducible first | exact HB.out | apply below_alloc | apply pw_below_drewN | apply below_drew1) | exact HB.out)⟩⟩
            ·replace c26 := Bool.eq_false_iff.mpr c26
             subst c26
             have H1 : (spec_Drive.l0 kj16 a0 l2 a3 x10_2 (wrap64 (x11_2 + 1)) (wrap64 (x12_2 + 1))) = some (r1, r2) := by (first | (rw [if_neg (show ¬ (false = true) by decide)] at H; exact H) | rfl)
             clear H
             have H := H1
             clear H1
             have H' := Aside0.mk H
             clear H
             have p318 : 0 ≤ (x12_2 : Int) := of_decide_eq_true (by first | (with_reducible assumption) | assumption)
             have q318 : x12_2 < (l2.length : Int) := of_decide_eq_true (by first | (with_reducible assumption) | assumption)
             obtain ⟨ad318, e318, hx318_0⟩ := Kd.at_int HR2.out x12_2 p318 q318
             cases e318
             replace hx318_0 := (HB.out.cell (World.block_lt_of_cell? w _ hx318_0)).trans hx318_0
             replace p318 := eq_true p318
             replace q318 := eq_true q318
             obtain ⟨Ao29, co29, eo29⟩ := Kd.R_slice HO_10.out
             subst eo29
             go_wp2_with (first | ((with_reducible refine gate_callee (f := 53) rfl ?_); refine goesL_ (some 61) rfl rfl Try.func53 (by kernel_rfl) rfl #[.int .i64 a0, .slice Ao29 x10_2.length co29, .int .i64 (wrap64 (Int.tdiv (rd l2 x12_2) 2)), .int .i64 a3] rfl (by (try simp only [List.map_toArray, List.map_cons, List.map_nil]); first | done | rfl | (simp only [List.length_drop, List.length_take]; rfl)) ?_; (with_reducible refine (spec_Forward.calls kj16 a0 _ _ x10_2 (wrap64 (Int.tdiv (rd l2 x12_2) 2)) a3 t319 false _ ?side1 ?side2 A25.out).mono ?_); (case side1 => repeat (first | exact (Kd.R_reads' HO_10.out).2.2 | (with_reducible refine Kd.C_alloc ?_ _) | (with_reducible refine Kd.C_drewN ?_ _) | (with_reducible refine Kd.C_drew ?_))); (case side2 => exact (Kd.R_reads' HO_10.out).2.1); rintro e w30 ⟨v321, rfl, ho0, hb⟩; refine ⟨_, rfl, ?_⟩; have n0_ := Aside0.mk (Kd.R_elder' (by (with_reducible repeat (first | apply Kd.R_alloc | apply Kd.R_drewN | apply Kd.R_drew)); exact HO_10.out) (Kd.R_base ho0) hb); have n1_ := Aside0.mk (Kd.R_elder' (by (with_reducible repeat (first | apply Kd.R_alloc | apply Kd.R_drewN | apply Kd.R_drew)); exact HO_13.out) (Kd.R_base ho0) hb); have n2_ := Aside0.mk (Kd.R_lower (Kd.R_new' (Kd.R_new' ho0 (Kd.R_lt (by (with_reducible repeat (first | apply Kd.R_alloc | apply Kd.R_drewN | apply Kd.R_drew)); exact HO_10.out))) (Kd.R_lt (by (with_reducible repeat (first | apply Kd.R_alloc | apply Kd.R_drewN | apply Kd.R_drew)); exact HO_13.out))) (below_size (by repeat (first | (with_reducible first | exact HB.out | apply below_alloc | apply pw_below_drewN | apply below_drew1) | exact HB.out)))); have n3_ := Aside0.mk (below_step (by repeat (first | (with_reducible first | exact HB.out | apply below_alloc | apply pw_below_drewN | apply below_drew1) | exact HB.out)) hb); clear HO_10; clear HO_13; clear HB; have HO_10 := n0_; have HO_13 := n1_; have HO322 := n2_; have HB := n3_; clear n0_ n1_ n2_ n3_; (try clear hb); (try clear hb2); (try clear hk); (try clear hi); (try clear ho0)))
             go_roundg kj16
             case measure => have := HJ4.out; have := HK2.out; have := HJ16.out; omega
             case rel => exact ⟨(x10_2), (wrap64 (x11_2 + 1)), (wrap64 (x12_2 + 1)), (by first | rfl | (simp; done) | (simp [*]; done)), (by first | rfl | (simp; done) | (simp [*]; done)), H', ⟨by have := HJ4.out; have := HK2.out; have := HJ16.out; omega⟩, ⟨by (with_reducible repeat (first | apply Kd.R_alloc | apply Kd.R_drewN | apply Kd.R_drew)); exact Kd.R_mono HO_10.out (fun _ hk => trivial)⟩, ⟨by repeat (first | (with_reducible first | exact HB.out | apply below_alloc | apply pw_below_drewN | apply below_drew1) | exact HB.out)⟩⟩
           ·rw [if_neg c24] at H
            exact absurd H (by simp)
          ·rw [if_neg c23] at H
           exact absurd H (by simp)
         ·replace c22 := Bool.eq_false_iff.mpr c22
          subst c22
          have H1 : (if 0 ≤ x12_2 then (if x12_2 < (l2.length : Int) then (if (rd l2 x12_2) ≥ 0 then ((spec_Shrink.f kj16 a0 x10_2 (wrap64 (Int.tdiv (rd l2 x12_2) 2))).bind fun bt325 => (if bt325.2 = true then (spec_Drive.l0 kj16 a0 l2 a3 bt325.1 x11_2 (wrap64 (x12_2 + 1))) else (spec_Drive.l0 kj16 a0 l2 a3 x10_2 (wrap64 (x11_2 + 1)) (wrap64 (x12_2 + 1))))) else (if false = true then (spec_Drive.l0 kj16 a0 l2 a3 y313 x11_2 (wrap64 (x12_2 + 1))) else (spec_Drive.l0 kj16 a0 l2 a3 x10_2 (wrap64 (x11_2 + 1)) (wrap64 (x12_2 + 1))))) else (none)) else (none)) = some (r1, r2) := by (first | (rw [if_neg (show ¬ (false = true) by decide)] at H; exact H) | rfl)
          clear H
          have H := H1
          clear H1
          by_cases c31 : 0 ≤ x12_2
          ·rw [if_pos c31] at H
           have c31b0 : decide (0 ≤ x12_2) = true := decide_eq_true c31
           clear c31
           by_cases c32 : x12_2 < (l2.length : Int)
           ·rw [if_pos c32] at H
            have c32b0 : decide (x12_2 < (l2.length : Int)) = true := decide_eq_true c32
            clear c32
            by_cases c33 : (rd l2 x12_2) ≥ 0
            ·rw [if_pos c33] at H
             have c33b0 : decide (0 ≤ (rd l2 x12_2)) = true := decide_eq_true c33
             clear c33
             replace H := Option.bind_eq_some_iff.mp H
             obtain ⟨⟨t325, t326⟩, A340, H⟩ := H
             replace H : (if t326 = true then (spec_Drive.l0 kj16 a0 l2 a3 t325 x11_2 (wrap64 (x12_2 + 1))) else (spec_Drive.l0 kj16 a0 l2 a3 x10_2 (wrap64 (x11_2 + 1)) (wrap64 (x12_2 + 1)))) = some (r1, r2) := H
             have A34 := Aside0.mk A340
             clear A340
             by_cases c35 : t326 = true
             ·subst c35
              have H1 : (spec_Drive.l0 kj16 a0 l2 a3 t325 x11_2 (wrap64 (x12_2 + 1))) = some (r1, r2) := by (first | (rw [if_pos rfl] at H; exact H) | rfl)
              clear H
              have H := H1
              clear H1
              have H' := Aside0.mk H
              clear H
              have p323 : 0 ≤ (x12_2 : Int) := of_decide_eq_true (by first | (with_reducible assumption) | assumption)
              have q323 : x12_2 < (l2.length : Int) := of_decide_eq_true (by first | (with_reducible assumption) | assumption)
              obtain ⟨ad323, e323, hx323_0⟩ := Kd.at_int HR2.out x12_2 p323 q323
              cases e323
              replace hx323_0 := (HB.out.cell (World.block_lt_of_cell? w _ hx323_0)).trans hx323_0
              replace p323 := eq_true p323
              replace q323 := eq_true q323
              have p324 : 0 ≤ (x12_2 : Int) := of_decide_eq_true (by first | (with_reducible assumption) | assumption)
              have q324 : x12_2 < (l2.length : Int) := of_decide_eq_true (by first | (with_reducible assumption) | assumption)
              obtain ⟨ad324, e324, hx324_0⟩ := Kd.at_int HR2.out x12_2 p324 q324
              obtain rfl : ad323 = ad324 := (by injection e324)
              replace hx324_0 := (HB.out.cell (World.block_lt_of_cell? w _ hx324_0)).trans hx324_0
              replace p324 := eq_true p324
              replace q324 := eq_true q324
              obtain ⟨Ao36, co36, eo36⟩ := Kd.R_slice HO_10.out
              subst eo36
              go_wp2_with (first | ((with_reducible refine gate_callee (f := 54) rfl ?_); refine goesL_ (some 77) rfl rfl Try.func54 (by kernel_rfl) rfl #[.int .i64 a0, .slice Ao36 x10_2.length co36, .int .i64 (wrap64 (Int.tdiv (rd l2 x12_2) 2))] rfl (by (try simp only [List.map_toArray, List.map_cons, List.map_nil]); first | done | rfl | (simp only [List.length_drop, List.length_take]; rfl)) ?_; (with_reducible refine (spec_Shrink.calls kj16 a0 _ _ x10_2 (wrap64 (Int.tdiv (rd l2 x12_2) 2)) t325 true _ ?side1 ?side2 A34.out).mono ?_); (case side1 => repeat (first | exact (Kd.R_reads' HO_10.out).2.2 | (with_reducible refine Kd.C_alloc ?_ _) | (with_reducible refine Kd.C_drewN ?_ _) | (with_reducible refine Kd.C_drew ?_))); (case side2 => exact (Kd.R_reads' HO_10.out).2.1); rintro e w37 ⟨v327, rfl, ho0, hb⟩; refine ⟨_, rfl, ?_⟩; have n0_ := Aside0.mk (Kd.R_elder' (by (with_reducible repeat (first | apply Kd.R_alloc | apply Kd.R_drewN | apply Kd.R_drew)); exact HO_10.out) (Kd.R_base ho0) hb); have n1_ := Aside0.mk (Kd.R_elder' (by (with_reducible repeat (first | apply Kd.R_alloc | apply Kd.R_drewN | apply Kd.R_drew)); exact HO_13.out) (Kd.R_base ho0) hb); have n2_ := Aside0.mk (Kd.R_lower (Kd.R_new' (Kd.R_new' ho0 (Kd.R_lt (by (with_reducible repeat (first | apply Kd.R_alloc | apply Kd.R_drewN | apply Kd.R_drew)); exact HO_10.out))) (Kd.R_lt (by (with_reducible repeat (first | apply Kd.R_alloc | apply Kd.R_drewN | apply Kd.R_drew)); exact HO_13.out))) (below_size (by repeat (first | (with_reducible first | exact HB.out | apply below_alloc | apply pw_below_drewN | apply below_drew1) | exact HB.out)))); have n3_ := Aside0.mk (below_step (by repeat (first | (with_reducible first | exact HB.out | apply below_alloc | apply pw_below_drewN | apply below_drew1) | exact HB.out)) hb); clear HO_10; clear HO_13; clear HB; have HO_10 := n0_; have HO_13 := n1_; have HO328 := n2_; have HB := n3_; clear n0_ n1_ n2_ n3_; (try clear hb); (try clear hb2); (try clear hk); (try clear hi); (try clear ho0)))
              go_roundg kj16
              case measure => have := HJ4.out; have := HK2.out; have := HJ16.out; omega
              case rel => exact ⟨(t325), (x11_2), (wrap64 (x12_2 + 1)), (by first | rfl | (simp; done) | (simp [*]; done)), (by first | rfl | (simp; done) | (simp [*]; done)), H', ⟨by have := HJ4.out; have := HK2.out; have := HJ16.out; omega⟩, ⟨by (with_reducible repeat (first | apply Kd.R_alloc | apply Kd.R_drewN | apply Kd.R_drew)); exact Kd.R_mono HO328.out (fun _ hk => trivial)⟩, ⟨by repeat (first | (with_reducible first | exact HB.out | apply below_alloc | apply pw_below_drewN | apply below_drew1) | exact HB.out)⟩⟩
             ·replace c35 := Bool.eq_false_iff.mpr c35
              subst c35
              have H1 : (spec_Drive.l0 kj16 a0 l2 a3 x10_2 (wrap64 (x11_2 + 1)) (wrap64 (x12_2 + 1))) = some (r1, r2) := by (first | (rw [if_neg (show ¬ (false = true) by decide)] at H; exact H) | rfl)
              clear H
              have H := H1
              clear H1
              have H' := Aside0.mk H
              clear H
              have p323 : 0 ≤ (x12_2 : Int) := of_decide_eq_true (by first | (with_reducible assumption) | assumption)
              have q323 : x12_2 < (l2.length : Int) := of_decide_eq_true (by first | (with_reducible assumption) | assumption)
              obtain ⟨ad323, e323, hx323_0⟩ := Kd.at_int HR2.out x12_2 p323 q323
              cases e323
              replace hx323_0 := (HB.out.cell (World.block_lt_of_cell? w _ hx323_0)).trans hx323_0
              replace p323 := eq_true p323
              replace q323 := eq_true q323
              have p324 : 0 ≤ (x12_2 : Int) := of_decide_eq_true (by first | (with_reducible assumption) | assumption)
              have q324 : x12_2 < (l2.length : Int) := of_decide_eq_true (by first | (with_reducible assumption) | assumption)
              obtain ⟨ad324, e324, hx324_0⟩ := Kd.at_int HR2.out x12_2 p324 q324
              obtain rfl : ad323 = ad324 := (by injection e324)
              replace hx324_0 := (HB.out.cell (World.block_lt_of_cell? w _ hx324_0)).trans hx324_0
              replace p324 := eq_true p324
              replace q324 := eq_true q324
              obtain ⟨Ao38, co38, eo38⟩ := Kd.R_slice HO_10.out
              subst eo38
              go_wp2_with (first | ((with_reducible refine gate_callee (f := 54) rfl ?_); refine goesL_ (some 77) rfl rfl Try.func54 (by kernel_rfl) rfl #[.int .i64 a0, .slice Ao38 x10_2.length co38, .int .i64 (wrap64 (Int.tdiv (rd l2 x12_2) 2))] rfl (by (try simp only [List.map_toArray, List.map_cons, List.map_nil]); first | done | rfl | (simp only [List.length_drop, List.length_take]; rfl)) ?_; (with_reducible refine (spec_Shrink.calls kj16 a0 _ _ x10_2 (wrap64 (Int.tdiv (rd l2 x12_2) 2)) t325 false _ ?side1 ?side2 A34.out).mono ?_); (case side1 => repeat (first | exact (Kd.R_reads' HO_10.out).2.2 | (with_reducible refine Kd.C_alloc ?_ _) | (with_reducible refine Kd.C_drewN ?_ _) | (with_reducible refine Kd.C_drew ?_))); (case side2 => exact (Kd.R_reads' HO_10.out).2.1); rintro e w39 ⟨v327, rfl, ho0, hb⟩; refine ⟨_, rfl, ?_⟩; have n0_ := Aside0.mk (Kd.R_elder' (by (with_reducible repeat (first | apply Kd.R_alloc | apply Kd.R_drewN | apply Kd.R_drew)); exact HO_10.out) (Kd.R_base ho0) hb); have n1_ := Aside0.mk (Kd.R_elder' (by (with_reducible repeat (first | apply Kd.R_alloc | apply Kd.R_drewN | apply Kd.R_drew)); exact HO_13.out) (Kd.R_base ho0) hb); have n2_ := Aside0.mk (Kd.R_lower (Kd.R_new' (Kd.R_new' ho0 (Kd.R_lt (by (with_reducible repeat (first | apply Kd.R_alloc | apply Kd.R_drewN | apply Kd.R_drew)); exact HO_10.out))) (Kd.R_lt (by (with_reducible repeat (first | apply Kd.R_alloc | apply Kd.R_drewN | apply Kd.R_drew)); exact HO_13.out))) (below_size (by repeat (first | (with_reducible first | exact HB.out | apply below_alloc | apply pw_below_drewN | apply below_drew1) | exact HB.out)))); have n3_ := Aside0.mk (below_step (by repeat (first | (with_reducible first | exact HB.out | apply below_alloc | apply pw_below_drewN | apply below_drew1) | exact HB.out)) hb); clear HO_10; clear HO_13; clear HB; have HO_10 := n0_; have HO_13 := n1_; have HO328 := n2_; have HB := n3_; clear n0_ n1_ n2_ n3_; (try clear hb); (try clear hb2); (try clear hk); (try clear hi); (try clear ho0)))
              go_roundg kj16
              case measure => have := HJ4.out; have := HK2.out; have := HJ16.out; omega
              case rel => exact ⟨(x10_2), (wrap64 (x11_2 + 1)), (wrap64 (x12_2 + 1)), (by first | rfl | (simp; done) | (simp [*]; done)), (by first | rfl | (simp; done) | (simp [*]; done)), H', ⟨by have := HJ4.out; have := HK2.out; have := HJ16.out; omega⟩, ⟨by (with_reducible repeat (first | apply Kd.R_alloc | apply Kd.R_drewN | apply Kd.R_drew)); exact Kd.R_mono HO_10.out (fun _ hk => trivial)⟩, ⟨by repeat (first | (with_reducible first | exact HB.out | apply below_alloc | apply pw_below_drewN | apply below_drew1) | exact HB.out)⟩⟩
            ·rw [if_neg c33] at H
             have c33b0 : decide (0 ≤ (rd l2 x12_2)) = false := decide_eq_false c33
             clear c33
             have H1 : (spec_Drive.l0 kj16 a0 l2 a3 x10_2 (wrap64 (x11_2 + 1)) (wrap64 (x12_2 + 1))) = some (r1, r2) := by rw [if_neg (show ¬ (false = true) by decide)] at H; exact H
             clear H
             have H := H1
             clear H1
             have H' := Aside0.mk H
             clear H
             have p323 : 0 ≤ (x12_2 : Int) := of_decide_eq_true (by first | (with_reducible assumption) | assumption)
             have q323 : x12_2 < (l2.length : Int) := of_decide_eq_true (by first | (with_reducible assumption) | assumption)
             obtain ⟨ad323, e323, hx323_0⟩ := Kd.at_int HR2.out x12_2 p323 q323
             cases e323
             replace hx323_0 := (HB.out.cell (World.block_lt_of_cell? w _ hx323_0)).trans hx323_0
             replace p323 := eq_true p323
             replace q323 := eq_true q323
             go_wp2
             go_roundg kj16
             case measure => have := HJ4.out; have := HK2.out; have := HJ16.out; omega
             case rel => exact ⟨(x10_2), (wrap64 (x11_2 + 1)), (wrap64 (x12_2 + 1)), (by first | rfl | (simp; done) | (simp [*]; done)), (by first | rfl | (simp; done) | (simp [*]; done)), H', ⟨by have := HJ4.out; have := HK2.out; have := HJ16.out; omega⟩, ⟨by (with_reducible repeat (first | apply Kd.R_alloc | apply Kd.R_drewN | apply Kd.R_drew)); exact Kd.R_mono HO_10.out (fun _ hk => trivial)⟩, ⟨by repeat (first | (with_reducible first | exact HB.out | apply below_alloc | apply pw_below_drewN | apply below_drew1) | exact HB.out)⟩⟩
           ·rw [if_neg c32] at H
            exact absurd H (by simp)
          ·rw [if_neg c31] at H
           exact absurd H (by simp)
      ·rw [if_neg c16] at H
       have c16b0 : decide (x12_2 < (l2.length : Int)) = false := decide_eq_false c16
       clear c16
       simp only [Option.some.injEq, Prod.mk.injEq] at H
       obtain ⟨rfl, rfl⟩ := H
       go_wp2
       go_ret2
       exact ⟨_, by first | rfl | (simp [errW_none, errW_some] <;> rfl) | (simp [*, errW_none, errW_some] <;> rfl), by (with_reducible repeat (first | apply Kd.R_alloc | apply Kd.R_drewN | apply Kd.R_drew)); exact HO_10.out, by repeat (first | (with_reducible first | exact HB.out | apply below_alloc | apply pw_below_drewN | apply below_drew1) | exact HB.out)⟩

end Go.Proofs.Ytmbonjljbienkaa.PFnDrive
