-- Written by a program of this session (wip/tools/fltprint.py: the kit's printer, taught more).
import Derived.Test.YtdeleoghaabjlaaPFnBridgesx0
namespace Go.Proofs.Ytdeleoghaabjlaa.PFnBridges
open Go.RowKit Go.Proofs.YtdeleoghaabjlaaW.PrintWords Go.Proofs.YtdeleoghaabjlaaW.PrintLast Go.Proofs.YtdeleoghaabjlaaW.PrintMore
attribute [local go_sem] max2_int min2_int max_two min_two max_three min_three max_four min_four   -- for this text's walks alone
set_option linter.unusedVariables false
set_option linter.unusedSimpArgs false

/-! ### spec_l02Best: function 51 -/
mutual
def spec_l02Best.l0 : Nat → Int → List Int → List Int → Int → Int → List (S54) → Option (List Int × List Int)
 | 0, _, _, _, _, _, _ => none
 | k + 1, x1, x6, x7, x8, x291000, x291001 => if x8 < x291000 then (if x6.length < 17592186044416 then (if x7.length < 17592186044416 then (spec_l02Best.l0 k x1 (x6 ++ [(-1)]) (x7 ++ [0]) (wrap64 (x8 + 1)) x291000 x291001) else (none)) else (none)) else (if 0 ≤ x1 then (if x1 < (x6.length : Int) then (spec_l02Best.l1 k (x6.set (x1 : Int).toNat 0) x7 0 x291000 x291001) else (none)) else (none))
def spec_l02Best.l1 : Nat → List Int → List Int → Int → Int → List (S54) → Option (List Int × List Int)
 | 0, _, _, _, _, _ => none
 | k + 1, x6, x7, x9, x291000, x291001 => if x9 < x291000 then (spec_l02Best.l2 k x6 x7 x9 0 x291000 x291001) else (some (x6, x7))
def spec_l02Best.l2 : Nat → List Int → List Int → Int → Int → Int → List (S54) → Option (List Int × List Int)
 | 0, _, _, _, _, _, _ => none
 | k + 1, x6, x7, x9, x10, x291000, x291001 => if x10 < (x291001.length : Int) then (if 0 ≤ x10 then (spec_l02Best.l3 k x6 x7 x9 x10 0 x291000 x291001 ((rd_T54 x291001 x10).f0) ((rd_T54 x291001 x10).f1) ((rd_T54 x291001 x10).f2) ((rd_T54 x291001 x10).f3)) else (none)) else (spec_l02Best.l1 k x6 x7 (wrap64 (x9 + 1)) x291000 x291001)
def spec_l02Best.l3 : Nat → List Int → List Int → Int → Int → Int → Int → List (S54) → Int → Int → Int → Int → Option (List Int × List Int)
 | 0, _, _, _, _, _, _, _, _, _, _, _ => none
 | k + 1, x6, x7, x9, x10, x12, x291000, x291001, x306000, x306001, x306002, x306003 => if x12 < 2 then (if x12 = 1 then (spec_l02Best.j4 k x6 x7 x9 x10 x12 x306001 x306000 x291000 x291001 x306000 x306001 x306002 x306003) else (spec_l02Best.j4 k x6 x7 x9 x10 x12 x306000 x306001 x291000 x291001 x306000 x306001 x306002 x306003)) else (spec_l02Best.l2 k x6 x7 x9 (wrap64 (x10 + 1)) x291000 x291001)
def spec_l02Best.j4 : Nat → List Int → List Int → Int → Int → Int → Int → Int → Int → List (S54) → Int → Int → Int → Int → Option (List Int × List Int)
 | 0, _, _, _, _, _, _, _, _, _, _, _, _, _ => none
 | k + 1, x6, x7, x9, x10, x12, x13, x14, x291000, x291001, x306000, x306001, x306002, x306003 => if 0 ≤ x14 then (if x14 < (x6.length : Int) then (if (rd x6 x14) < 0 then (spec_l02Best.l3 k x6 x7 x9 x10 (wrap64 (x12 + 1)) x291000 x291001 x306000 x306001 x306002 x306003) else (if x14 < (x7.length : Int) then (if 0 ≤ x13 then (if x13 < (x6.length : Int) then (if (rd x6 x13) < 0 then (if x13 < (x7.length : Int) then (spec_l02Best.l3 k (x6.set (x13 : Int).toNat (wrap64 ((rd x6 x14) + x306002))) (x7.set (x13 : Int).toNat (wrap64 ((rd x7 x14) + 1))) x9 x10 (wrap64 (x12 + 1)) x291000 x291001 x306000 x306001 x306002 x306003) else (none)) else (if (wrap64 ((rd x6 x14) + x306002)) < (rd x6 x13) then (if x13 < (x7.length : Int) then (spec_l02Best.l3 k (x6.set (x13 : Int).toNat (wrap64 ((rd x6 x14) + x306002))) (x7.set (x13 : Int).toNat (wrap64 ((rd x7 x14) + 1))) x9 x10 (wrap64 (x12 + 1)) x291000 x291001 x306000 x306001 x306002 x306003) else (none)) else (if (wrap64 ((rd x6 x14) + x306002)) = (rd x6 x13) then (if x13 < (x7.length : Int) then (if (wrap64 ((rd x7 x14) + 1)) < (rd x7 x13) then (spec_l02Best.l3 k (x6.set (x13 : Int).toNat (wrap64 ((rd x6 x14) + x306002))) (x7.set (x13 : Int).toNat (wrap64 ((rd x7 x14) + 1))) x9 x10 (wrap64 (x12 + 1)) x291000 x291001 x306000 x306001 x306002 x306003) else (spec_l02Best.l3 k x6 x7 x9 x10 (wrap64 (x12 + 1)) x291000 x291001 x306000 x306001 x306002 x306003)) else (none)) else (spec_l02Best.l3 k x6 x7 x9 x10 (wrap64 (x12 + 1)) x291000 x291001 x306000 x306001 x306002 x306003)))) else (none)) else (none)) else (none))) else (none)) else (none)
end
def spec_l02Best.f (k : Nat) (a0_0 : Int) (l0_1 : List (S54)) (a1 : Int) : Option (List Int × List Int) := spec_l02Best.l0 k a1 (([] : List Int)) (([] : List Int)) 0 a0_0 l0_1
theorem spec_l02Best.mono_l : ∀ k, (∀ y0 y1 y2 y3 y4 y5, LeO (spec_l02Best.l0 k y0 y1 y2 y3 y4 y5) (spec_l02Best.l0 (k + 1) y0 y1 y2 y3 y4 y5)) ∧ (∀ y0 y1 y2 y3 y4, LeO (spec_l02Best.l1 k y0 y1 y2 y3 y4) (spec_l02Best.l1 (k + 1) y0 y1 y2 y3 y4)) ∧ (∀ y0 y1 y2 y3 y4 y5, LeO (spec_l02Best.l2 k y0 y1 y2 y3 y4 y5) (spec_l02Best.l2 (k + 1) y0 y1 y2 y3 y4 y5)) ∧ (∀ y0 y1 y2 y3 y4 y5 y6 y7 y8 y9 y10, LeO (spec_l02Best.l3 k y0 y1 y2 y3 y4 y5 y6 y7 y8 y9 y10) (spec_l02Best.l3 (k + 1) y0 y1 y2 y3 y4 y5 y6 y7 y8 y9 y10)) ∧ (∀ y0 y1 y2 y3 y4 y5 y6 y7 y8 y9 y10 y11 y12, LeO (spec_l02Best.j4 k y0 y1 y2 y3 y4 y5 y6 y7 y8 y9 y10 y11 y12) (spec_l02Best.j4 (k + 1) y0 y1 y2 y3 y4 y5 y6 y7 y8 y9 y10 y11 y12))
 | 0 => ⟨fun _ _ _ _ _ _ r h => by simp [spec_l02Best.l0] at h, fun _ _ _ _ _ r h => by simp [spec_l02Best.l1] at h, fun _ _ _ _ _ _ r h => by simp [spec_l02Best.l2] at h, fun _ _ _ _ _ _ _ _ _ _ _ r h => by simp [spec_l02Best.l3] at h, fun _ _ _ _ _ _ _ _ _ _ _ _ _ r h => by simp [spec_l02Best.j4] at h⟩
 | k + 1 => by
  obtain ⟨ih0, ih1, ih2, ih3, ih4⟩ := spec_l02Best.mono_l k
  refine ⟨?_, ?_, ?_, ?_, ?_⟩
  ·intro y0 y1 y2 y3 y4 y5
   unfold spec_l02Best.l0
   repeat' first
   | (with_reducible exact ih0 _ _ _ _ _ _)
   | (with_reducible exact ih1 _ _ _ _ _)
   | (with_reducible exact ih2 _ _ _ _ _ _)
   | (with_reducible exact ih3 _ _ _ _ _ _ _ _ _ _ _)
   | (with_reducible exact ih4 _ _ _ _ _ _ _ _ _ _ _ _ _)
   | (with_reducible exact LeO.refl _)
   | (with_reducible exact LeO.none _)
   | (with_reducible refine LeO.ite ?_ ?_)
   | (with_reducible refine LeO.bind ?_ (fun _ => ?_))
   | exact ih0 _ _ _ _ _ _
   | exact ih1 _ _ _ _ _
   | exact ih2 _ _ _ _ _ _
   | exact ih3 _ _ _ _ _ _ _ _ _ _ _
   | exact ih4 _ _ _ _ _ _ _ _ _ _ _ _ _
   | exact LeO.none _
   | refine LeO.ite ?_ ?_
   | refine LeO.bind ?_ (fun _ => ?_)
  ·intro y0 y1 y2 y3 y4
   unfold spec_l02Best.l1
   repeat' first
   | (with_reducible exact ih0 _ _ _ _ _ _)
   | (with_reducible exact ih1 _ _ _ _ _)
   | (with_reducible exact ih2 _ _ _ _ _ _)
   | (with_reducible exact ih3 _ _ _ _ _ _ _ _ _ _ _)
   | (with_reducible exact ih4 _ _ _ _ _ _ _ _ _ _ _ _ _)
   | (with_reducible exact LeO.refl _)
   | (with_reducible exact LeO.none _)
   | (with_reducible refine LeO.ite ?_ ?_)
   | (with_reducible refine LeO.bind ?_ (fun _ => ?_))
   | exact ih0 _ _ _ _ _ _
   | exact ih1 _ _ _ _ _
   | exact ih2 _ _ _ _ _ _
   | exact ih3 _ _ _ _ _ _ _ _ _ _ _
   | exact ih4 _ _ _ _ _ _ _ _ _ _ _ _ _
   | exact LeO.none _
   | refine LeO.ite ?_ ?_
   | refine LeO.bind ?_ (fun _ => ?_)
  ·intro y0 y1 y2 y3 y4 y5
   unfold spec_l02Best.l2
   repeat' first
   | (with_reducible exact ih0 _ _ _ _ _ _)
   | (with_reducible exact ih1 _ _ _ _ _)
   | (with_reducible exact ih2 _ _ _ _ _ _)
   | (with_reducible exact ih3 _ _ _ _ _ _ _ _ _ _ _)
   | (with_reducible exact ih4 _ _ _ _ _ _ _ _ _ _ _ _ _)
   | (with_reducible exact LeO.refl _)
   | (with_reducible exact LeO.none _)
   | (with_reducible refine LeO.ite ?_ ?_)
   | (with_reducible refine LeO.bind ?_ (fun _ => ?_))
   | exact ih0 _ _ _ _ _ _
   | exact ih1 _ _ _ _ _
   | exact ih2 _ _ _ _ _ _
   | exact ih3 _ _ _ _ _ _ _ _ _ _ _
   | exact ih4 _ _ _ _ _ _ _ _ _ _ _ _ _
   | exact LeO.none _
   | refine LeO.ite ?_ ?_
   | refine LeO.bind ?_ (fun _ => ?_)
  ·intro y0 y1 y2 y3 y4 y5 y6 y7 y8 y9 y10
   unfold spec_l02Best.l3
   repeat' first
   | (with_reducible exact ih0 _ _ _ _ _ _)
   | (with_reducible exact ih1 _ _ _ _ _)
   | (with_reducible exact ih2 _ _ _ _ _ _)
   | (with_reducible exact ih3 _ _ _ _ _ _ _ _ _ _ _)
   | (with_reducible exact ih4 _ _ _ _ _ _ _ _ _ _ _ _ _)
   | (with_reducible exact LeO.refl _)
   | (with_reducible exact LeO.none _)
   | (with_reducible refine LeO.ite ?_ ?_)
   | (with_reducible refine LeO.bind ?_ (fun _ => ?_))
   | exact ih0 _ _ _ _ _ _
   | exact ih1 _ _ _ _ _
   | exact ih2 _ _ _ _ _ _
   | exact ih3 _ _ _ _ _ _ _ _ _ _ _
   | exact ih4 _ _ _ _ _ _ _ _ _ _ _ _ _
   | exact LeO.none _
   | refine LeO.ite ?_ ?_
   | refine LeO.bind ?_ (fun _ => ?_)
  ·intro y0 y1 y2 y3 y4 y5 y6 y7 y8 y9 y10 y11 y12
   unfold spec_l02Best.j4
   repeat' first
   | (with_reducible exact ih0 _ _ _ _ _ _)
   | (with_reducible exact ih1 _ _ _ _ _)
   | (with_reducible exact ih2 _ _ _ _ _ _)
   | (with_reducible exact ih3 _ _ _ _ _ _ _ _ _ _ _)
   | (with_reducible exact ih4 _ _ _ _ _ _ _ _ _ _ _ _ _)
   | (with_reducible exact LeO.refl _)
   | (with_reducible exact LeO.none _)
   | (with_reducible refine LeO.ite ?_ ?_)
   | (with_reducible refine LeO.bind ?_ (fun _ => ?_))
   | exact ih0 _ _ _ _ _ _
   | exact ih1 _ _ _ _ _
   | exact ih2 _ _ _ _ _ _
   | exact ih3 _ _ _ _ _ _ _ _ _ _ _
   | exact ih4 _ _ _ _ _ _ _ _ _ _ _ _ _
   | exact LeO.none _
   | refine LeO.ite ?_ ?_
   | refine LeO.bind ?_ (fun _ => ?_)
theorem spec_l02Best.mono : ∀ a0 a1 a2 k, LeO (spec_l02Best.f k a0 a1 a2) (spec_l02Best.f (k + 1) a0 a1 a2) := by
 intro a0 a1 a2 k
 obtain ⟨ih0, ih1, ih2, ih3, ih4⟩ := spec_l02Best.mono_l k
 unfold spec_l02Best.f
 repeat' first
   | (with_reducible exact ih0 _ _ _ _ _ _)
   | (with_reducible exact ih1 _ _ _ _ _)
   | (with_reducible exact ih2 _ _ _ _ _ _)
   | (with_reducible exact ih3 _ _ _ _ _ _ _ _ _ _ _)
   | (with_reducible exact ih4 _ _ _ _ _ _ _ _ _ _ _ _ _)
   | (with_reducible exact LeO.refl _)
   | (with_reducible exact LeO.none _)
   | (with_reducible refine LeO.ite ?_ ?_)
   | (with_reducible refine LeO.bind ?_ (fun _ => ?_))
   | exact ih0 _ _ _ _ _ _
   | exact ih1 _ _ _ _ _
   | exact ih2 _ _ _ _ _ _
   | exact ih3 _ _ _ _ _ _ _ _ _ _ _
   | exact ih4 _ _ _ _ _ _ _ _ _ _ _ _ _
   | exact LeO.none _
   | refine LeO.ite ?_ ?_
   | refine LeO.bind ?_ (fun _ => ?_)
set_option maxHeartbeats 8000000 in
set_option maxRecDepth 100000 in
theorem spec_l02Best.calls (k : Nat) (a0_0 : Int) (A0_1 : Option Addr) (c0_1 : Nat) (l0_1 : List (S54)) (a1 : Int) (r1 : List Int) (r2 : List Int) (w : World) (hr0_1 : Kd.C k54 w A0_1 l0_1.length l0_1) (hc0_1 : l0_1.length ≤ c0_1) (h : spec_l02Best.f k a0_0 l0_1 a1 = some (r1, r2)) :
  Calls Try.prog 51 #[.agg #[.int .i64 a0_0, .slice A0_1 l0_1.length c0_1], .int .i64 a1] w fun e w' => ∃ v0_ v1_ : Value, e = .returned (.tuple #[v0_, v1_]) ∧ Kd.R (Kd.int .i64) 3 w' w.heap.size (fun k_ => some k_ ≠ (v1_ : Value).ownBlock) v0_ r1 ∧ Kd.R (Kd.int .i64) 3 w' w.heap.size (fun k_ => some k_ ≠ (v0_ : Value).ownBlock) v1_ r2 ∧ Below w.heap.size w w' := by
 have hu26 := Try.underlying26
 have hu54 := Try.underlying54
 have HR0_1 := Aside0.mk hr0_1
 have HC0_1 := Aside0.mk hc0_1
 clear hr0_1 hc0_1
 have HB := Aside0.mk (Below.refl w.heap.size w)
 have H : (spec_l02Best.l0 k a1 (([] : List Int)) (([] : List Int)) 0 a0_0 l0_1) = some (r1, r2) := h
 clear h
 obtain ⟨y291, hy291⟩ : ∃ y_ : List Int, y_ = (([] : List Int)) := ⟨_, rfl⟩
 replace H : (spec_l02Best.l0 k a1 y291 (([] : List Int)) 0 a0_0 l0_1) = some (r1, r2) := by first | (rw [hy291]; with_reducible exact H) | (have H2_ := (Option.bind_some _ _).symm.trans H; rw [hy291]; with_reducible exact H2_) | (have H2_ := (Option.bind_some _ _).symm.trans H; with_reducible exact H2_) | with_reducible exact H | (rw [hy291]; exact H) | exact H
 have Ny291 := Aside0.mk hy291
 clear hy291
 obtain ⟨y294, hy294⟩ : ∃ y_ : List Int, y_ = (([] : List Int)) := ⟨_, rfl⟩
 replace H : (spec_l02Best.l0 k a1 y291 y294 0 a0_0 l0_1) = some (r1, r2) := by first | (rw [hy294]; with_reducible exact H) | (have H2_ := (Option.bind_some _ _).symm.trans H; rw [hy294]; with_reducible exact H2_) | (have H2_ := (Option.bind_some _ _).symm.trans H; with_reducible exact H2_) | with_reducible exact H | (rw [hy294]; exact H) | exact H
 have Ny294 := Aside0.mk hy294
 clear hy294
 have H' := Aside0.mk H
 clear H
 go_enter Try.func51, Try.ntmps51
 go_wp2_with (first | ((with_reducible refine gate_dst (N := 2) rfl ?_); refine box_event ?hg (N := 2) ?hd (cs := #[.int .i64 a0_0, .slice A0_1 l0_1.length c0_1]) (t := 26) ?hr ?_; (case hd => rfl); (case hg => rfl); (case hr => first | (go_simp; done) | (go_simp; rfl)); intro gb290 hg w3 hbox hb; have n0_ := Aside0.mk (below_step HB.out hb); have n1_ := Aside0.mk (hbox); have n2_ := Aside0.mk ((by rw [hg]; exact (below_size HB.out) : w.heap.size ≤ gb290)); have n3_ := Aside0.mk ((by rw [hg]; exact (below_size HB.out) : w.heap.size ≤ gb290)); clear HB; have HB := n0_; have BK290 := n1_; have GW290 := n2_; have GE290 := n3_; clear n0_ n1_ n2_ n3_; clear hb hbox hg) | ((with_reducible refine gate_dst (N := 17) rfl ?_); refine Kd.R_lit (Kd.int .i64) _ 3 ?hg (N := 17) ?hd (xs := ([] : List Int)) (inner := []) (ok := fun _ => True) (okp := fun _ => True) ?hr ?hp (fun _ hk => hk) trivial (Below.refl _ _) (Nat.le_refl _) (by simp) ?_; (case hd => rfl); (case hg => rfl); (case hr => first | (go_simp; done) | (go_simp; rfl)); (case hp => exact (Reps.none _ _)); intro v292 w4 ho5 hb hg_ hnew_; clear hg_ hnew_; (first | rw [← Ny291.out] at ho5 | (simp only [Int.reduceToNat] at ho5; rw [← Ny291.out] at ho5)); have n0_ := Aside0.mk (Kd.R_lower ho5 (below_size HB.out)); have n1_ := Aside0.mk (blk_below BK290.out hb); have n2_ := Aside0.mk (below_step HB.out hb); clear BK290; clear HB; have HO293 := n0_; have BK290 := n1_; have HB := n2_; clear n0_ n1_ n2_; clear hb ho5) | ((with_reducible refine gate_dst (N := 18) rfl ?_); refine Kd.R_lit (Kd.int .i64) _ 3 ?hg (N := 18) ?hd (xs := ([] : List Int)) (inner := []) (ok := fun _ => True) (okp := fun _ => True) ?hr ?hp (fun _ hk => hk) trivial (Below.refl _ _) (Nat.le_refl _) (by simp) ?_; (case hd => rfl); (case hg => rfl); (case hr => first | (go_simp; done) | (go_simp; rfl)); (case hp => exact (Reps.none _ _)); intro v295 w6 ho7 hb hg_ hnew_; clear hg_ hnew_; (first | rw [← Ny294.out] at ho7 | (simp only [Int.reduceToNat] at ho7; rw [← Ny294.out] at ho7)); have n0_ := Aside0.mk (Kd.R_elder' HO293.out (Kd.R_base ho7) hb); have n1_ := Aside0.mk (Kd.R_lower (Kd.R_new' ho7 (Kd.R_lt HO293.out)) (below_size HB.out)); have n2_ := Aside0.mk (blk_below BK290.out hb); have n3_ := Aside0.mk (below_step HB.out hb); clear HO293; clear BK290; clear HB; have HO293 := n0_; have HO296 := n1_; have BK290 := n2_; have HB := n3_; clear n0_ n1_ n2_ n3_; clear hb ho7))
 repeat (go_quiet (fail); try go_wp2_with (fail))
 go_loopg [6, 7, 8] k (fun kq v6 v7 v8 w' => ∃ (x6_1 : List Int) (x7_1 : List Int) (x8_1 : Int), v8 = .int .i64 x8_1 ∧ Aside0 (spec_l02Best.l0 kq a1 x6_1 x7_1 x8_1 a0_0 l0_1 = some (r1, r2)) ∧ Aside0 (kq ≤ k) ∧ Aside0 (Kd.R (Kd.int .i64) 3 w' w.heap.size (fun k_ => some k_ ≠ (v7 : Value).ownBlock) v6 x6_1) ∧ Aside0 (Kd.R (Kd.int .i64) 3 w' w.heap.size (fun k_ => some k_ ≠ (v6 : Value).ownBlock) v7 x7_1) ∧ Aside0 (w'.heap[gb290]? = some (.cells #[.int .i64 a0_0, (.slice A0_1 l0_1.length c0_1)] 26 (0, 0))) ∧ Aside0 (Below w.heap.size w w'))
 case atStart => exact ⟨(y291), (y294), (0), (by first | rfl | (simp; done) | (simp [*]; done)), H', ⟨Nat.le_refl _⟩, ⟨by (with_reducible repeat (first | apply Kd.R_alloc | apply Kd.R_drewN | apply Kd.R_drew)); exact Kd.R_mono HO293.out (fun _ hk => hk.2)⟩, ⟨by (with_reducible repeat (first | apply Kd.R_alloc | apply Kd.R_drewN | apply Kd.R_drew)); exact Kd.R_mono HO296.out (fun _ hk => hk.2)⟩, ⟨by (with_reducible repeat (first | refine blk_drewN ?_ _ | refine blk_drew ?_ | refine blk_alloc ?_ _)); exact BK290.out⟩, ⟨by repeat (first | (with_reducible first | exact HB.out | apply below_alloc | apply pw_below_drewN | apply below_drew1 | refine below_set ?_ GE290.out) | exact HB.out)⟩⟩
 case round =>
  clear H'
  try clear p2
  try clear c5
  obtain ⟨x6_1, x7_1, x8_1, rfl, HA, HK1, HO_6, HO_7, BK290, HB⟩ := hrel
  cases gk with
  | zero => exact absurd HA.out (by simp [spec_l02Best.l0])
  | succ k1 =>
   have H := HA.out
   clear HA
   simp only [spec_l02Best.l0] at H
   by_cases c8 : x8_1 < a0_0
   rotate_left
   ·rw [if_neg c8] at H
    have c8b0 : decide (x8_1 < a0_0) = false := decide_eq_false c8
    clear c8
    by_cases c14 : 0 ≤ a1
    rotate_left
    ·rw [if_neg c14] at H
     exact absurd H (by simp)

    rw [if_pos c14] at H
    have c14b0 : decide (0 ≤ a1) = true := decide_eq_true c14
    clear c14
    by_cases c15 : a1 < (x6_1.length : Int)
    rotate_left
    ·rw [if_neg c15] at H
     exact absurd H (by simp)
    rw [if_pos c15] at H
    have c15b0 : decide (a1 < (x6_1.length : Int)) = true := decide_eq_true c15
    clear c15
    obtain ⟨y303, hy303⟩ : ∃ y_ : List Int, y_ = (x6_1.set (a1 : Int).toNat 0) := ⟨_, rfl⟩
    replace H : (spec_l02Best.l1 k1 y303 x7_1 0 a0_0 l0_1) = some (r1, r2) := by first | (rw [hy303]; with_reducible exact H) | (have H2_ := (Option.bind_some _ _).symm.trans H; rw [hy303]; with_reducible exact H2_) | (have H2_ := (Option.bind_some _ _).symm.trans H; with_reducible exact H2_) | with_reducible exact H | (rw [hy303]; exact H) | exact H
    have Ny303 := Aside0.mk hy303
    clear hy303
    have H' := Aside0.mk H
    clear H
    have hcz17_0 : wr.cell? ⟨gb290, 0, none⟩ = some (.int .i64 a0_0) := (blk_cell BK290.out 0).trans rfl
    have hcz17_1 : wr.cell? ⟨gb290, 1, none⟩ = some (.slice A0_1 l0_1.length c0_1) := (blk_cell BK290.out 1).trans rfl
    have hfz17_0 := blk_frozen BK290.out 0
    have hfz17_1 := blk_frozen BK290.out 1
    have p16 : 0 ≤ (a1 : Int) := of_decide_eq_true (by first | (with_reducible assumption) | assumption)
    have q16 : (a1 : Int) < ((x6_1.length : Int) : Int) := of_decide_eq_true (by first | (with_reducible assumption) | assumption)
    obtain ⟨go16, co16, eo16, gb16, gl16, cl16, HG16⟩ := Kd.R_form HO_6.out (by omega)
    (first | cases eo16 | (injection eo16 with ea_ en_ ec_; (first | subst ea_ | (injection ea_ with ea_; subst ea_)); subst ec_; clear en_))
    have GB16 := Aside0.mk gb16
    have GG16 := Aside0.mk HG16
    clear gb16 gl16 HG16
    obtain ⟨hx16_0, hf16_0⟩ := Kd.R_celln 0 HO_6.out (a1 : Int) p16 q16
    replace p16 := eq_true p16
    replace q16 := eq_true q16
    obtain ⟨hy18_, hz18_⟩ := Kd.R_celln 0 HO_6.out (a1 : Int) (of_decide_eq_true (by first | (with_reducible assumption) | assumption)) (of_decide_eq_true (by first | (with_reducible assumption) | assumption))
    have HP18 := Kd.R_putg HO_6.out (a1 : Int) 0
    go_wp2_with (first | ((with_reducible refine gate_store (t := 3) (p := 33) rfl ?_); (try (rw [drewN_self wr]; generalize hq_ : World.drewN wr _ = wr; have n0_ := Aside0.mk (Kd.R_at hq_ HO_6.out); have n1_ := Aside0.mk (Kd.R_at hq_ HO_7.out); have n2_ := Aside0.mk (blk_at hq_ BK290.out); have n3_ := Aside0.mk (below_at hq_ HB.out); clear hq_ HO_6 HO_7 BK290 HB; have HO_6 := n0_; have HO_7 := n1_; have BK290 := n2_; have HB := n3_; clear n0_ n1_ n2_ n3_; (try (obtain ⟨hy18_, hz18_⟩ := Kd.R_celln 0 HO_6.out (a1 : Int) (of_decide_eq_true (by first | (with_reducible assumption) | assumption)) (of_decide_eq_true (by first | (with_reducible assumption) | assumption)))); (try (have HP18 := Kd.R_putg HO_6.out (a1 : Int) 0)))); refine store_event (t := 3) (p := 33) (v := ?vo_w19) (w1 := (wr.setCell ⟨go16, (a1 : Int).toNat, none⟩ (.int .i64 0))) ?hg ?ho ?hn ?hr ?_; (case ho => rfl); (case hg => rfl); (case hn => rfl); (case hr => first | (go_simp; done) | (go_simp; rfl)); intro w19 hw; have hg : wr.grownBy w19 (some go16) := (by rw [hw]; exact HP18.2); have hp_ : Kd.R (Kd.int .i64) 3 w19 w.heap.size (fun k_ => some k_ ≠ (u7 : Value).ownBlock) (.slice (some ⟨go16, 0, none⟩) x6_1.length co16) y303 := (by rw [hw, Ny303.out]; exact HP18.1); clear HP18; have n0_ := Aside0.mk (hp_); have n1_ := Aside0.mk (Kd.R_after (v := (.slice (some ⟨go16, 0, none⟩) x6_1.length co16)) (v1 := (.slice (some ⟨go16, 0, none⟩) x6_1.length co16)) (ok := (fun _ => True)) (Kd.R_mono HO_7.out (fun _ hk => ⟨trivial, hk⟩)) hg (.inl rfl)); have n2_ := Aside0.mk (blk_grown (g := gb290) (o := .cells #[.int .i64 a0_0, .slice A0_1 l0_1.length c0_1] 26 (0, 0)) BK290.out hg (Kd.R_ne HO_6.out BK290.out (by decide))); have n3_ := Aside0.mk ((by rw [hw]; exact below_set (HB.out) GB16.out : Below w.heap.size w w19)); clear HO_6; clear HO_7; clear BK290; clear HB; have HO_6 := n0_; have HO_7 := n1_; have BK290 := n2_; have HB := n3_; clear n0_ n1_ n2_ n3_; clear hg hw hp_))
    repeat (go_quiet (fail); try go_wp2_with (fail))
    go_loopg [9] k1 (fun kq v9 w' => ∃ (x6_2 : List Int) (x7_2 : List Int) (x9_2 : Int), v9 = .int .i64 x9_2 ∧ Aside0 (spec_l02Best.l1 kq x6_2 x7_2 x9_2 a0_0 l0_1 = some (r1, r2)) ∧ Aside0 (kq ≤ k1) ∧ Aside0 (Kd.R (Kd.int .i64) 3 w' w.heap.size (fun k_ => some k_ ≠ (u7 : Value).ownBlock) (.slice (some ⟨go16, 0, none⟩) x6_1.length co16) x6_2) ∧ Aside0 (Kd.R (Kd.int .i64) 3 w' w.heap.size (fun k_ => some k_ ≠ ((.slice (some ⟨go16, 0, none⟩) x6_1.length co16) : Value).ownBlock) u7 x7_2) ∧ Aside0 (w'.heap[gb290]? = some (.cells #[.int .i64 a0_0, (.slice A0_1 l0_1.length c0_1)] 26 (0, 0))) ∧ Aside0 (Below w.heap.size w w'))
    case atStart => exact ⟨(y303), (x7_1), (0), (by first | rfl | (simp; done) | (simp [*]; done)), H', ⟨Nat.le_refl _⟩, ⟨by (with_reducible repeat (first | apply Kd.R_alloc | apply Kd.R_drewN | apply Kd.R_drew)); exact HO_6.out⟩, ⟨by (with_reducible repeat (first | apply Kd.R_alloc | apply Kd.R_drewN | apply Kd.R_drew)); exact Kd.R_mono HO_7.out (fun _ hk => hk.2)⟩, ⟨by (with_reducible repeat (first | refine blk_drewN ?_ _ | refine blk_drew ?_ | refine blk_alloc ?_ _)); exact BK290.out⟩, ⟨by repeat (first | (with_reducible first | exact HB.out | apply below_alloc | apply pw_below_drewN | apply below_drew1 | refine below_set ?_ GE290.out) | exact HB.out)⟩⟩
    case round =>
     clear H'
     try clear c1
     try clear p1
     try clear q1
     try clear hx1
     try clear p2
     try clear c5
     try clear p6
     try clear c8
     try clear c8b0
     try clear c9
     try clear c10
     try clear c14
     try clear c14b0
     try clear c15
     try clear c15b0
     try clear p16
     try clear q16
     try clear hx16
     try clear hf16
     try clear hcz11_0
     try clear hcz11_1
     try clear hcz17_0
     try clear hcz17_1
     try clear hfz11_0
     try clear hfz11_1
     try clear hfz17_0
     try clear hfz17_1
     try clear hx16_0
     try clear p16
     try clear p2
     try clear q16
     obtain ⟨x6_2, x7_2, x9_2, rfl, HA, HK2, HO_6, HO_7, BK290, HB⟩ := hrel
     have hl6_2 := (Kd.R_reads' HO_6.out).1
     rw [hl6_2] at HO_6
     (try simp only [hl6_2])
     (try simp only [hl6_2] at BK290)
     (try simp only [hl6_2] at HO_7)
     cases gk with
     | zero => exact absurd HA.out (by simp [spec_l02Best.l1])
     | succ k2 =>
      have H := HA.out
      clear HA
      simp only [spec_l02Best.l1] at H
      by_cases c20 : x9_2 < a0_0
      rotate_left
      ·rw [if_neg c20] at H
       have c20b0 : decide (x9_2 < a0_0) = false := decide_eq_false c20
       clear c20
       simp only [Option.some.injEq, Prod.mk.injEq] at H
       obtain ⟨rfl, rfl⟩ := H
       have hcz82_0 : wr.cell? ⟨gb290, 0, none⟩ = some (.int .i64 a0_0) := (blk_cell BK290.out 0).trans rfl
       have hcz82_1 : wr.cell? ⟨gb290, 1, none⟩ = some (.slice A0_1 l0_1.length c0_1) := (blk_cell BK290.out 1).trans rfl
       have hfz82_0 := blk_frozen BK290.out 0
       have hfz82_1 := blk_frozen BK290.out 1
       go_wp2
       repeat (go_quiet (fail); try go_wp2)
       go_ret2
       exact ⟨_, _, by first | rfl | (simp [errW_none, errW_some] <;> rfl) | (simp [*, errW_none, errW_some] <;> rfl), by (with_reducible repeat (first | apply Kd.R_alloc | apply Kd.R_drewN | apply Kd.R_drew)); exact HO_6.out, by (with_reducible repeat (first | apply Kd.R_alloc | apply Kd.R_drewN | apply Kd.R_drew)); exact HO_7.out, by repeat (first | (with_reducible first | exact HB.out | apply below_alloc | apply pw_below_drewN | apply below_drew1 | refine below_set ?_ GE290.out) | exact HB.out)⟩
      rw [if_pos c20] at H
      have c20b0 : decide (x9_2 < a0_0) = true := decide_eq_true c20
      clear c20
      have H' := Aside0.mk H
      clear H
      have hcz21_0 : wr.cell? ⟨gb290, 0, none⟩ = some (.int .i64 a0_0) := (blk_cell BK290.out 0).trans rfl
      have hcz21_1 : wr.cell? ⟨gb290, 1, none⟩ = some (.slice A0_1 l0_1.length c0_1) := (blk_cell BK290.out 1).trans rfl
      have hfz21_0 := blk_frozen BK290.out 0
      have hfz21_1 := blk_frozen BK290.out 1
      go_wp2
      repeat (go_quiet (fail); try go_wp2)
      go_loopg [10] k2 (fun kq v10 w' => ∃ (x6_3 : List Int) (x7_3 : List Int) (x10_3 : Int), v10 = .int .i64 x10_3 ∧ Aside0 (spec_l02Best.l2 kq x6_3 x7_3 x9_2 x10_3 a0_0 l0_1 = some (r1, r2)) ∧ Aside0 (kq ≤ k2) ∧ Aside0 (Kd.R (Kd.int .i64) 3 w' w.heap.size (fun k_ => some k_ ≠ (u7 : Value).ownBlock) (.slice (some ⟨go16, 0, none⟩) x6_2.length co16) x6_3) ∧ Aside0 (Kd.R (Kd.int .i64) 3 w' w.heap.size (fun k_ => some k_ ≠ ((.slice (some ⟨go16, 0, none⟩) x6_2.length co16) : Value).ownBlock) u7 x7_3) ∧ Aside0 (w'.heap[gb290]? = some (.cells #[.int .i64 a0_0, (.slice A0_1 l0_1.length c0_1)] 26 (0, 0))) ∧ Aside0 (Below w.heap.size w w'))
      case atStart => exact ⟨(x6_2), (x7_2), (0), (by first | rfl | (simp; done) | (simp [*]; done)), H', ⟨Nat.le_refl _⟩, ⟨by (try simp only [hl6_2]); (with_reducible repeat (first | apply Kd.R_alloc | apply Kd.R_drewN | apply Kd.R_drew)); exact HO_6.out⟩, ⟨by (try simp only [hl6_2]); (with_reducible repeat (first | apply Kd.R_alloc | apply Kd.R_drewN | apply Kd.R_drew)); exact HO_7.out⟩, ⟨by (try simp only [hl6_2]); (with_reducible repeat (first | refine blk_drewN ?_ _ | refine blk_drew ?_ | refine blk_alloc ?_ _)); exact BK290.out⟩, ⟨by repeat (first | (with_reducible first | exact HB.out | apply below_alloc | apply pw_below_drewN | apply below_drew1 | refine below_set ?_ GE290.out) | exact HB.out)⟩⟩
      case round =>
       clear H'
       try clear c1
       try clear p1
       try clear q1
       try clear hx1
       try clear c2
       try clear p2
       try clear c5
       try clear p6
       try clear c8
       try clear c8b0
       try clear c9
       try clear c10
       try clear c14
       try clear c14b0
       try clear c15
       try clear c15b0
       try clear p16
       try clear q16
       try clear hx16
       try clear hf16
       try clear c20
       try clear c20b0
       try clear hcz11_0
       try clear hcz11_1
       try clear hcz17_0
       try clear hcz17_1
       try clear hcz21_0
       try clear hcz21_1
       try clear hfz11_0
       try clear hfz11_1
       try clear hfz17_0
       try clear hfz17_1
       try clear hfz21_0
       try clear hfz21_1
       try clear hx16_0
       try clear p1
       try clear p16
       try clear p2
       try clear p6
       try clear q1
       try clear q16
       obtain ⟨x6_3, x7_3, x10_3, rfl, HA, HK3, HO_6, HO_7, BK290, HB⟩ := hrel
       have hl6_3 := (Kd.R_reads' HO_6.out).1
       rw [hl6_3] at HO_6
       (try simp only [hl6_3])
       (try simp only [hl6_3] at BK290)
       (try simp only [hl6_3] at HO_7)
       cases gk with
       | zero => exact absurd HA.out (by simp [spec_l02Best.l2])
       | succ k3 =>
        have H := HA.out
        clear HA
        simp only [spec_l02Best.l2] at H
        by_cases c22 : x10_3 < (l0_1.length : Int)
        rotate_left
        ·rw [if_neg c22] at H
         have c22b0 : decide (x10_3 < (l0_1.length : Int)) = false := decide_eq_false c22
         (try (have c22bL := c22b0; simp only [hl6_2, hl6_3] at c22bL))
         clear c22
         have H' := Aside0.mk H
         clear H
         have hcz81_0 : wr.cell? ⟨gb290, 0, none⟩ = some (.int .i64 a0_0) := (blk_cell BK290.out 0).trans rfl
         have hcz81_1 : wr.cell? ⟨gb290, 1, none⟩ = some (.slice A0_1 l0_1.length c0_1) := (blk_cell BK290.out 1).trans rfl
         have hfz81_0 := blk_frozen BK290.out 0
         have hfz81_1 := blk_frozen BK290.out 1
         go_wp2
         repeat (go_quiet (fail); try go_wp2)
         (try simp only [← hl6_2, ← hl6_3])
         go_roundg k3
         case measure => have := HK1.out; have := HK2.out; have := HK3.out; omega
         case rel => exact ⟨(x6_3), (x7_3), (wrap64 (x9_2 + 1)), (by first | rfl | (simp; done) | (simp [*]; done)), H', ⟨by have := HK1.out; have := HK2.out; have := HK3.out; omega⟩, ⟨by (try simp only [hl6_2]); (try simp only [hl6_3]); (with_reducible repeat (first | apply Kd.R_alloc | apply Kd.R_drewN | apply Kd.R_drew)); exact HO_6.out⟩, ⟨by (try simp only [hl6_2]); (try simp only [hl6_3]); (with_reducible repeat (first | apply Kd.R_alloc | apply Kd.R_drewN | apply Kd.R_drew)); exact HO_7.out⟩, ⟨by (try simp only [hl6_2]); (try simp only [hl6_3]); (with_reducible repeat (first | refine blk_drewN ?_ _ | refine blk_drew ?_ | refine blk_alloc ?_ _)); exact BK290.out⟩, ⟨by repeat (first | (with_reducible first | exact HB.out | apply below_alloc | apply pw_below_drewN | apply below_drew1 | refine below_set ?_ GE290.out) | exact HB.out)⟩⟩
        rw [if_pos c22] at H
        have c22b0 : decide (x10_3 < (l0_1.length : Int)) = true := decide_eq_true c22
        (try (have c22bL := c22b0; simp only [hl6_2, hl6_3] at c22bL))
        clear c22
        by_cases c23 : 0 ≤ x10_3
        rotate_left
        ·rw [if_neg c23] at H
         exact absurd H (by simp)
        rw [if_pos c23] at H
        have c23b0 : decide (0 ≤ x10_3) = true := decide_eq_true c23
        clear c23
        have H' := Aside0.mk H
        clear H
        have hcz24_0 : wr.cell? ⟨gb290, 0, none⟩ = some (.int .i64 a0_0) := (blk_cell BK290.out 0).trans rfl
        have hcz24_1 : wr.cell? ⟨gb290, 1, none⟩ = some (.slice A0_1 l0_1.length c0_1) := (blk_cell BK290.out 1).trans rfl
        have hfz24_0 := blk_frozen BK290.out 0
        have hfz24_1 := blk_frozen BK290.out 1
        have p304 : 0 ≤ (x10_3 : Int) := of_decide_eq_true (by first | (with_reducible assumption) | assumption)
        have q304 : x10_3 < (l0_1.length : Int) := of_decide_eq_true (by first | (with_reducible assumption) | assumption)
        obtain ⟨ad304, e304, hx304_0, hx304_1, hx304_2, hx304_3⟩ := at_T54 HR0_1.out x10_3 p304 q304
        cases e304
        replace hx304_0 := (HB.out.cell (World.block_lt_of_cell? w _ hx304_0)).trans hx304_0
        replace hx304_1 := (HB.out.cell (World.block_lt_of_cell? w _ hx304_1)).trans hx304_1
        replace hx304_2 := (HB.out.cell (World.block_lt_of_cell? w _ hx304_2)).trans hx304_2
        replace hx304_3 := (HB.out.cell (World.block_lt_of_cell? w _ hx304_3)).trans hx304_3
        replace p304 := eq_true p304
        replace q304 := eq_true q304
        go_wp2_with (first | ((with_reducible refine gate_dst (N := 11) rfl ?_); refine box_event ?hg (N := 11) ?hd (cs := #[.int .i64 0, .int .i64 0, .int .i64 0, .int .i64 0]) (t := 54) ?hr ?_; (case hd => rfl); (case hg => rfl); (case hr => first | (go_simp; done) | (go_simp; rfl)); intro gb305 hg w25 hbox hb; have n0_ := Aside0.mk (Kd.R_below HO_6.out hb); have n1_ := Aside0.mk (Kd.R_below HO_7.out hb); have n2_ := Aside0.mk (blk_below BK290.out hb); have n3_ := Aside0.mk (below_step HB.out hb); have n4_ := Aside0.mk (hbox); have n5_ := Aside0.mk ((by rw [hg]; exact (below_size HB.out) : w.heap.size ≤ gb305)); have n6_ := Aside0.mk ((by rw [hg]; exact (below_size HB.out) : w.heap.size ≤ gb305)); have n7_ := Aside0.mk ((by rw [hg]; exact Nat.ne_of_lt (blk_lt BK290.out) : gb290 ≠ gb305)); have n8_ := Aside0.mk ((by rw [hg]; exact Nat.ne_of_gt (blk_lt BK290.out) : gb305 ≠ gb290)); clear HO_6; clear HO_7; clear BK290; clear HB; have HO_6 := n0_; have HO_7 := n1_; have BK290 := n2_; have HB := n3_; have BK305 := n4_; have GW305 := n5_; have GE305 := n6_; have NB290_305 := n7_; have NB305_290 := n8_; clear n0_ n1_ n2_ n3_ n4_ n5_ n6_ n7_ n8_; clear hb hbox hg; have hnb26 := NB305_290.out; have hnc26 := NB290_305.out; have hcz27_0 : w25.cell? ⟨gb305, 0, none⟩ = some (.int .i64 0) := (blk_cell BK305.out 0).trans rfl; have hcz27_1 : w25.cell? ⟨gb305, 1, none⟩ = some (.int .i64 0) := (blk_cell BK305.out 1).trans rfl; have hcz27_2 : w25.cell? ⟨gb305, 2, none⟩ = some (.int .i64 0) := (blk_cell BK305.out 2).trans rfl; have hcz27_3 : w25.cell? ⟨gb305, 3, none⟩ = some (.int .i64 0) := (blk_cell BK305.out 3).trans rfl; have hfz27_0 := blk_frozen BK305.out 0; have hfz27_1 := blk_frozen BK305.out 1; have hfz27_2 := blk_frozen BK305.out 2; have hfz27_3 := blk_frozen BK305.out 3))
        repeat (go_quiet (fail); try go_wp2_with (fail))
        go_loopg [12] k3 (fun kq v12 w' => ∃ (x6_4 : List Int) (x7_4 : List Int) (x12_4 : Int), v12 = .int .i64 x12_4 ∧ Aside0 (spec_l02Best.l3 kq x6_4 x7_4 x9_2 x10_3 x12_4 a0_0 l0_1 ((rd_T54 l0_1 x10_3).f0) ((rd_T54 l0_1 x10_3).f1) ((rd_T54 l0_1 x10_3).f2) ((rd_T54 l0_1 x10_3).f3) = some (r1, r2)) ∧ Aside0 (kq ≤ k3) ∧ Aside0 (Kd.R (Kd.int .i64) 3 w' w.heap.size (fun k_ => some k_ ≠ (u7 : Value).ownBlock) (.slice (some ⟨go16, 0, none⟩) x6_3.length co16) x6_4) ∧ Aside0 (Kd.R (Kd.int .i64) 3 w' w.heap.size (fun k_ => some k_ ≠ ((.slice (some ⟨go16, 0, none⟩) x6_3.length co16) : Value).ownBlock) u7 x7_4) ∧ Aside0 (w'.heap[gb290]? = some (.cells #[.int .i64 a0_0, (.slice (some ad304) l0_1.length c0_1)] 26 (0, 0))) ∧ Aside0 (w'.heap[gb305]? = some (.cells #[.int .i64 ((rd_T54 l0_1 x10_3).f0), .int .i64 ((rd_T54 l0_1 x10_3).f1), .int .i64 ((rd_T54 l0_1 x10_3).f2), .int .i64 ((rd_T54 l0_1 x10_3).f3)] 54 (0, 0))) ∧ Aside0 (Below w.heap.size w w'))
        case atStart => exact ⟨(x6_3), (x7_3), (0), (by first | rfl | (simp; done) | (simp [*]; done)), H', ⟨Nat.le_refl _⟩, ⟨by (try simp only [hl6_2]); (try simp only [hl6_3]); (with_reducible repeat (first | apply Kd.R_alloc | apply Kd.R_drewN | apply Kd.R_drew)); exact Kd.R_mono (Kd.R_far (p := ⟨gb305, 3, none⟩) (Kd.R_far (p := ⟨gb305, 2, none⟩) (Kd.R_far (p := ⟨gb305, 1, none⟩) (Kd.R_far (p := ⟨gb305, 0, none⟩) (Kd.R_types HO_6.out BK305.out (by decide)) (fun _ hk => hk.2) (.int .i64 ((rd_T54 l0_1 x10_3).f0))) (fun _ hk => hk.2) (.int .i64 ((rd_T54 l0_1 x10_3).f1))) (fun _ hk => hk.2) (.int .i64 ((rd_T54 l0_1 x10_3).f2))) (fun _ hk => hk.2) (.int .i64 ((rd_T54 l0_1 x10_3).f3))) (fun _ hk => hk.1)⟩, ⟨by (try simp only [hl6_2]); (try simp only [hl6_3]); (with_reducible repeat (first | apply Kd.R_alloc | apply Kd.R_drewN | apply Kd.R_drew)); exact Kd.R_mono (Kd.R_far (p := ⟨gb305, 3, none⟩) (Kd.R_far (p := ⟨gb305, 2, none⟩) (Kd.R_far (p := ⟨gb305, 1, none⟩) (Kd.R_far (p := ⟨gb305, 0, none⟩) (Kd.R_types HO_7.out BK305.out (by decide)) (fun _ hk => hk.2) (.int .i64 ((rd_T54 l0_1 x10_3).f0))) (fun _ hk => hk.2) (.int .i64 ((rd_T54 l0_1 x10_3).f1))) (fun _ hk => hk.2) (.int .i64 ((rd_T54 l0_1 x10_3).f2))) (fun _ hk => hk.2) (.int .i64 ((rd_T54 l0_1 x10_3).f3))) (fun _ hk => hk.1)⟩, ⟨by (try simp only [hl6_2]); (try simp only [hl6_3]); (with_reducible repeat (first | refine blk_drewN ?_ _ | refine blk_drew ?_ | refine blk_alloc ?_ _)); refine blk_far ?_ NB290_305.out _; (with_reducible repeat (first | refine blk_drewN ?_ _ | refine blk_drew ?_ | refine blk_alloc ?_ _)); refine blk_far ?_ NB290_305.out _; (with_reducible repeat (first | refine blk_drewN ?_ _ | refine blk_drew ?_ | refine blk_alloc ?_ _)); refine blk_far ?_ NB290_305.out _; (with_reducible repeat (first | refine blk_drewN ?_ _ | refine blk_drew ?_ | refine blk_alloc ?_ _)); refine blk_far ?_ NB290_305.out _; (with_reducible repeat (first | refine blk_drewN ?_ _ | refine blk_drew ?_ | refine blk_alloc ?_ _)); exact BK290.out⟩, ⟨by (try simp only [hl6_2]); (try simp only [hl6_3]); (with_reducible repeat (first | refine blk_drewN ?_ _ | refine blk_drew ?_ | refine blk_alloc ?_ _)); refine blk_put (cs := #[.int .i64 ((rd_T54 l0_1 x10_3).f0), .int .i64 ((rd_T54 l0_1 x10_3).f1), .int .i64 ((rd_T54 l0_1 x10_3).f2), .int .i64 0]) ?_ 3 _ rfl; (with_reducible repeat (first | refine blk_drewN ?_ _ | refine blk_drew ?_ | refine blk_alloc ?_ _)); refine blk_put (cs := #[.int .i64 ((rd_T54 l0_1 x10_3).f0), .int .i64 ((rd_T54 l0_1 x10_3).f1), .int .i64 0, .int .i64 0]) ?_ 2 _ rfl; (with_reducible repeat (first | refine blk_drewN ?_ _ | refine blk_drew ?_ | refine blk_alloc ?_ _)); refine blk_put (cs := #[.int .i64 ((rd_T54 l0_1 x10_3).f0), .int .i64 0, .int .i64 0, .int .i64 0]) ?_ 1 _ rfl; (with_reducible repeat (first | refine blk_drewN ?_ _ | refine blk_drew ?_ | refine blk_alloc ?_ _)); refine blk_put (cs := #[.int .i64 0, .int .i64 0, .int .i64 0, .int .i64 0]) ?_ 0 _ rfl; (with_reducible repeat (first | refine blk_drewN ?_ _ | refine blk_drew ?_ | refine blk_alloc ?_ _)); exact BK305.out⟩, ⟨by repeat (first | (with_reducible first | exact HB.out | apply below_alloc | apply pw_below_drewN | apply below_drew1 | refine below_set ?_ GE290.out | refine below_set ?_ GE305.out) | exact HB.out)⟩⟩
        case round =>
         clear H'
         try clear c1
         try clear p1
         try clear q1
         try clear hx1
         try clear c2
         try clear p2
         try clear p3
         try clear q3
         try clear hx3
         try clear c5
         try clear p6
         try clear c8
         try clear c8b0
         try clear c9
         try clear c10
         try clear c14
         try clear c14b0
         try clear c15
         try clear c15b0
         try clear p16
         try clear q16
         try clear hx16
         try clear hf16
         try clear c20
         try clear c20b0
         try clear c22
         try clear c22b0
         try clear c23
         try clear c23b0
         try clear c26
         try clear hcz11_0
         try clear hcz11_1
         try clear hcz17_0
         try clear hcz17_1
         try clear hcz21_0
         try clear hcz21_1
         try clear hcz24_0
         try clear hcz24_1
         try clear hcz27_0
         try clear hcz27_1
         try clear hcz27_2
         try clear hcz27_3
         try clear hfz11_0
         try clear hfz11_1
         try clear hfz17_0
         try clear hfz17_1
         try clear hfz21_0
         try clear hfz21_1
         try clear hfz24_0
         try clear hfz24_1
         try clear hfz27_0
         try clear hfz27_1
         try clear hfz27_2
         try clear hfz27_3
         try clear hx16_0
         try clear hx304_0
         try clear hx304_1
         try clear hx304_2
         try clear hx304_3
         try clear p1
         try clear p16
         try clear p2
         try clear p304
         try clear p6
         try clear q1
         try clear q16
         try clear q304
         obtain ⟨x6_4, x7_4, x12_4, rfl, HA, HK4, HO_6, HO_7, BK290, BK305, HB⟩ := hrel
         have hl6_4 := (Kd.R_reads' HO_6.out).1
         rw [hl6_4] at HO_6
         (try simp only [hl6_4])
         (try simp only [hl6_4] at BK290)
         (try simp only [hl6_4] at BK305)
         (try simp only [hl6_4] at HO_7)
         cases gk with
         | zero => exact absurd HA.out (by simp [spec_l02Best.l3])
         | succ k4 =>
          have H := HA.out
          clear HA
          simp only [spec_l02Best.l3] at H
          by_cases c28 : x12_4 < 2
          rotate_left
          ·rw [if_neg c28] at H
           have c28b0 : decide (x12_4 < 2) = false := decide_eq_false c28
           clear c28
           have H' := Aside0.mk H
           clear H
           go_wp2
           repeat (go_quiet (fail); try go_wp2)
           (try simp only [← hl6_3, ← hl6_4])
           go_roundg k4
           case measure => have := HK1.out; have := HK2.out; have := HK3.out; have := HK4.out; omega
           case rel => exact ⟨(x6_4), (x7_4), (wrap64 (x10_3 + 1)), (by first | rfl | (simp; done) | (simp [*]; done)), H', ⟨by have := HK1.out; have := HK2.out; have := HK3.out; have := HK4.out; omega⟩, ⟨by (try simp only [hl6_2]); (try simp only [hl6_3]); (try simp only [hl6_4]); (with_reducible repeat (first | apply Kd.R_alloc | apply Kd.R_drewN | apply Kd.R_drew)); exact HO_6.out⟩, ⟨by (try simp only [hl6_2]); (try simp only [hl6_3]); (try simp only [hl6_4]); (with_reducible repeat (first | apply Kd.R_alloc | apply Kd.R_drewN | apply Kd.R_drew)); exact HO_7.out⟩, ⟨by (try simp only [hl6_2]); (try simp only [hl6_3]); (try simp only [hl6_4]); (with_reducible repeat (first | refine blk_drewN ?_ _ | refine blk_drew ?_ | refine blk_alloc ?_ _)); exact BK290.out⟩, ⟨by repeat (first | (with_reducible first | exact HB.out | apply below_alloc | apply pw_below_drewN | apply below_drew1 | refine below_set ?_ GE290.out | refine below_set ?_ GE305.out) | exact HB.out)⟩⟩
          rw [if_pos c28] at H
          have c28b0 : decide (x12_4 < 2) = true := decide_eq_true c28
          clear c28
          have HC29 := Aside0.mk H
          clear H
          have hnb30 := NB305_290.out
          have hnc30 := NB290_305.out
          have hcz31_0 : wr.cell? ⟨gb305, 0, none⟩ = some (.int .i64 ((rd_T54 l0_1 x10_3).f0)) := (blk_cell BK305.out 0).trans rfl
          have hcz31_1 : wr.cell? ⟨gb305, 1, none⟩ = some (.int .i64 ((rd_T54 l0_1 x10_3).f1)) := (blk_cell BK305.out 1).trans rfl
          have hcz31_2 : wr.cell? ⟨gb305, 2, none⟩ = some (.int .i64 ((rd_T54 l0_1 x10_3).f2)) := (blk_cell BK305.out 2).trans rfl
          have hcz31_3 : wr.cell? ⟨gb305, 3, none⟩ = some (.int .i64 ((rd_T54 l0_1 x10_3).f3)) := (blk_cell BK305.out 3).trans rfl
          have hfz31_0 := blk_frozen BK305.out 0
          have hfz31_1 := blk_frozen BK305.out 1
          have hfz31_2 := blk_frozen BK305.out 2
          have hfz31_3 := blk_frozen BK305.out 3
          go_upto_if 61 with (fail)
          repeat (go_quiet (fail); go_upto_if 61 with (fail))
          go_cut [13, 14] (fun v13 v14 wc => ∃ (kq : Nat) (x13_28 : Int) (x14_28 : Int), v13 = .int .i64 x13_28 ∧ v14 = .int .i64 x14_28 ∧ Aside0 (spec_l02Best.j4 kq x6_4 x7_4 x9_2 x10_3 x12_4 x13_28 x14_28 a0_0 l0_1 ((rd_T54 l0_1 x10_3).f0) ((rd_T54 l0_1 x10_3).f1) ((rd_T54 l0_1 x10_3).f2) ((rd_T54 l0_1 x10_3).f3) = some (r1, r2)) ∧ Aside0 (kq ≤ k4) ∧ Aside0 (Kd.R (Kd.int .i64) 3 wc w.heap.size (fun k_ => some k_ ≠ (u7 : Value).ownBlock) (.slice (some ⟨go16, 0, none⟩) x6_4.length co16) x6_4) ∧ Aside0 (Kd.R (Kd.int .i64) 3 wc w.heap.size (fun k_ => some k_ ≠ ((.slice (some ⟨go16, 0, none⟩) x6_4.length co16) : Value).ownBlock) u7 x7_4) ∧ Aside0 (wc.heap[gb290]? = some (.cells #[.int .i64 a0_0, (.slice (some ad304) l0_1.length c0_1)] 26 (0, 0))) ∧ Aside0 (wc.heap[gb305]? = some (.cells #[.int .i64 ((rd_T54 l0_1 x10_3).f0), .int .i64 ((rd_T54 l0_1 x10_3).f1), .int .i64 ((rd_T54 l0_1 x10_3).f2), .int .i64 ((rd_T54 l0_1 x10_3).f3)] 54 (0, 0))) ∧ Aside0 (Below w.heap.size w wc))
          case first =>
           have H := HC29.out
           clear HC29
           by_cases c32 : x12_4 = 1
           rotate_left
           ·rw [if_neg c32] at H
            have c32b0 : (x12_4 == 1) = false := beq_eq_false_iff_ne.mpr c32
            have c32b1 : (x12_4 != 1) = true := bne_iff_ne.mpr c32
            (first | rw [c32b0] | (simp only [i64_w, i32_w]; rw [c32b0]) | rw [c32b1] | skip)
            have H' := Aside0.mk H
            clear H
            go_wp2
            repeat (go_quiet (fail); try go_wp2)
            go_meet
            case rel => exact ⟨_, (((rd_T54 l0_1 x10_3).f0)), (((rd_T54 l0_1 x10_3).f1)), (by first | rfl | (simp; done) | (simp [*]; done)), (by first | rfl | (simp; done) | (simp [*]; done)), H', ⟨by have := HK1.out; have := HK2.out; have := HK3.out; have := HK4.out; first | omega | exact Nat.le_refl _⟩, ⟨by (try simp only [hl6_2]); (try simp only [hl6_3]); (try simp only [hl6_4]); (with_reducible repeat (first | apply Kd.R_alloc | apply Kd.R_drewN | apply Kd.R_drew)); exact HO_6.out⟩, ⟨by (try simp only [hl6_2]); (try simp only [hl6_3]); (try simp only [hl6_4]); (with_reducible repeat (first | apply Kd.R_alloc | apply Kd.R_drewN | apply Kd.R_drew)); exact HO_7.out⟩, ⟨by (try simp only [hl6_2]); (try simp only [hl6_3]); (try simp only [hl6_4]); (with_reducible repeat (first | refine blk_drewN ?_ _ | refine blk_drew ?_ | refine blk_alloc ?_ _)); exact BK290.out⟩, ⟨by (try simp only [hl6_2]); (try simp only [hl6_3]); (try simp only [hl6_4]); (with_reducible repeat (first | refine blk_drewN ?_ _ | refine blk_drew ?_ | refine blk_alloc ?_ _)); exact BK305.out⟩, ⟨by repeat (first | (with_reducible first | exact HB.out | apply below_alloc | apply pw_below_drewN | apply below_drew1 | refine below_set ?_ GE290.out | refine below_set ?_ GE305.out) | exact HB.out)⟩⟩
           rw [if_pos c32] at H
           have c32b0 : (x12_4 == 1) = true := beq_iff_eq.mpr c32
           have c32b1 : (x12_4 != 1) = false := bne_eq_false_iff_eq.mpr c32
           clear c32
           (first | rw [c32b0] | (simp only [i64_w, i32_w]; rw [c32b0]) | rw [c32b1] | skip)
           have H' := Aside0.mk H
           clear H
           have hnb33 := NB305_290.out
           have hnc33 := NB290_305.out
           have hcz34_0 : wr.cell? ⟨gb305, 0, none⟩ = some (.int .i64 ((rd_T54 l0_1 x10_3).f0)) := (blk_cell BK305.out 0).trans rfl
           have hcz34_1 : wr.cell? ⟨gb305, 1, none⟩ = some (.int .i64 ((rd_T54 l0_1 x10_3).f1)) := (blk_cell BK305.out 1).trans rfl
           have hcz34_2 : wr.cell? ⟨gb305, 2, none⟩ = some (.int .i64 ((rd_T54 l0_1 x10_3).f2)) := (blk_cell BK305.out 2).trans rfl
           have hcz34_3 : wr.cell? ⟨gb305, 3, none⟩ = some (.int .i64 ((rd_T54 l0_1 x10_3).f3)) := (blk_cell BK305.out 3).trans rfl
           have hfz34_0 := blk_frozen BK305.out 0
           have hfz34_1 := blk_frozen BK305.out 1
           have hfz34_2 := blk_frozen BK305.out 2
           have hfz34_3 := blk_frozen BK305.out 3
           go_wp2
           repeat (go_quiet (fail); try go_wp2)
           go_meet
           case rel => exact ⟨_, (((rd_T54 l0_1 x10_3).f1)), (((rd_T54 l0_1 x10_3).f0)), (by first | rfl | (simp; done) | (simp [*]; done)), (by first | rfl | (simp; done) | (simp [*]; done)), H', ⟨by have := HK1.out; have := HK2.out; have := HK3.out; have := HK4.out; first | omega | exact Nat.le_refl _⟩, ⟨by (try simp only [hl6_2]); (try simp only [hl6_3]); (try simp only [hl6_4]); (with_reducible repeat (first | apply Kd.R_alloc | apply Kd.R_drewN | apply Kd.R_drew)); exact HO_6.out⟩, ⟨by (try simp only [hl6_2]); (try simp only [hl6_3]); (try simp only [hl6_4]); (with_reducible repeat (first | apply Kd.R_alloc | apply Kd.R_drewN | apply Kd.R_drew)); exact HO_7.out⟩, ⟨by (try simp only [hl6_2]); (try simp only [hl6_3]); (try simp only [hl6_4]); (with_reducible repeat (first | refine blk_drewN ?_ _ | refine blk_drew ?_ | refine blk_alloc ?_ _)); exact BK290.out⟩, ⟨by (try simp only [hl6_2]); (try simp only [hl6_3]); (try simp only [hl6_4]); (with_reducible repeat (first | refine blk_drewN ?_ _ | refine blk_drew ?_ | refine blk_alloc ?_ _)); exact BK305.out⟩, ⟨by repeat (first | (with_reducible first | exact HB.out | apply below_alloc | apply pw_below_drewN | apply below_drew1 | refine below_set ?_ GE290.out | refine below_set ?_ GE305.out) | exact HB.out)⟩⟩
          case rest =>
           clear HC29
           try clear c1
           try clear p1
           try clear q1
           try clear hx1
           try clear c2
           try clear p2
           try clear c3
           try clear p3
           try clear q3
           try clear hx3
           try clear c5
           try clear p6
           try clear c8
           try clear c8b0
           try clear c9
           try clear c10
           try clear c14
           try clear c14b0
           try clear c15
           try clear c15b0
           try clear p16
           try clear q16
           try clear hx16
           try clear hf16
           try clear c20
           try clear c20b0
           try clear c22
           try clear c22b0
           try clear c23
           try clear c23b0
           try clear c26
           try clear c28
           try clear c28b0
           try clear c30
           try clear p30
           try clear q30
           try clear hx30
           try clear c32
           try clear c32b0
           try clear c32b1
           try clear c33
           try clear hcz11_0
           try clear hcz11_1
           try clear hcz17_0
           try clear hcz17_1
           try clear hcz21_0
           try clear hcz21_1
           try clear hcz24_0
           try clear hcz24_1
           try clear hcz27_0
           try clear hcz27_1
           try clear hcz27_2
           try clear hcz27_3
           try clear hcz31_0
           try clear hcz31_1
           try clear hcz31_2
           try clear hcz31_3
           try clear hcz34_0
           try clear hcz34_1
           try clear hcz34_2
           try clear hcz34_3
           try clear hfz11_0
           try clear hfz11_1
           try clear hfz17_0
           try clear hfz17_1
           try clear hfz21_0
           try clear hfz21_1
           try clear hfz24_0
           try clear hfz24_1
           try clear hfz27_0
           try clear hfz27_1
           try clear hfz27_2
           try clear hfz27_3
           try clear hfz31_0
           try clear hfz31_1
           try clear hfz31_2
           try clear hfz31_3
           try clear hfz34_0
           try clear hfz34_1
           try clear hfz34_2
           try clear hfz34_3
           try clear hx16_0
           try clear hx304_0
           try clear hx304_1
           try clear hx304_2
           try clear hx304_3
           try clear p1
           try clear p16
           try clear p2
           try clear p3
           try clear p304
           try clear p6
           try clear q1
           try clear q16
           try clear q3
           try clear q304
           obtain ⟨kq, x13_28, x14_28, rfl, rfl, HA, HJ28, HO_6, HO_7, BK290, BK305, HB⟩ := hcut
           cases kq with
           | zero => exact absurd HA.out (by simp [spec_l02Best.j4])
           | succ kj28 =>
            have H := HA.out
            clear HA
            simp only [spec_l02Best.j4] at H
            by_cases c35 : 0 ≤ x14_28
            rotate_left
            ·rw [if_neg c35] at H
             exact absurd H (by simp)
            rw [if_pos c35] at H
            have c35b0 : decide (0 ≤ x14_28) = true := decide_eq_true c35
            clear c35
            by_cases c36 : x14_28 < (x6_4.length : Int)
            rotate_left
            ·rw [if_neg c36] at H
             exact absurd H (by simp)
            rw [if_pos c36] at H
            have c36b0 : decide (x14_28 < (x6_4.length : Int)) = true := decide_eq_true c36
            (try (have c36bL := c36b0; simp only [hl6_2, hl6_3, hl6_4] at c36bL))
            clear c36
            by_cases c37 : (rd x6_4 x14_28) < 0
            rotate_left
            ·rw [if_neg c37] at H
             have c37b0 : decide ((rd x6_4 x14_28) < 0) = false := decide_eq_false c37
             clear c37
             by_cases c38 : x14_28 < (x7_4.length : Int)
             rotate_left
             ·rw [if_neg c38] at H
              exact absurd H (by simp)
             rw [if_pos c38] at H
             have c38b0 : decide (x14_28 < (x7_4.length : Int)) = true := decide_eq_true c38
             (try (have c38bL := c38b0; simp only [hl6_2, hl6_3, hl6_4] at c38bL))
             clear c38
             by_cases c39 : 0 ≤ x13_28
             rotate_left
             ·rw [if_neg c39] at H
              exact absurd H (by simp)
             rw [if_pos c39] at H
             have c39b0 : decide (0 ≤ x13_28) = true := decide_eq_true c39
             clear c39
             by_cases c40 : x13_28 < (x6_4.length : Int)
             rotate_left
             ·rw [if_neg c40] at H
              exact absurd H (by simp)
             rw [if_pos c40] at H
             have c40b0 : decide (x13_28 < (x6_4.length : Int)) = true := decide_eq_true c40
             (try (have c40bL := c40b0; simp only [hl6_2, hl6_3, hl6_4] at c40bL))
             clear c40
             by_cases c41 : (rd x6_4 x13_28) < 0
             rotate_left
             ·rw [if_neg c41] at H
              have c41b0 : decide ((rd x6_4 x13_28) < 0) = false := decide_eq_false c41
              clear c41
              by_cases c52 : (wrap64 ((rd x6_4 x14_28) + ((rd_T54 l0_1 x10_3).f2))) < (rd x6_4 x13_28)
              rotate_left
              ·rw [if_neg c52] at H
               have c52b0 : decide ((wrap64 ((rd x6_4 x14_28) + ((rd_T54 l0_1 x10_3).f2))) < (rd x6_4 x13_28)) = false := decide_eq_false c52
               clear c52
               by_cases c63 : (wrap64 ((rd x6_4 x14_28) + ((rd_T54 l0_1 x10_3).f2))) = (rd x6_4 x13_28)
               rotate_left
               ·rw [if_neg c63] at H
                have c63b0 : ((wrap64 ((rd x6_4 x14_28) + ((rd_T54 l0_1 x10_3).f2))) == (rd x6_4 x13_28)) = false := beq_eq_false_iff_ne.mpr c63
                have c63b1 : ((wrap64 ((rd x6_4 x14_28) + ((rd_T54 l0_1 x10_3).f2))) != (rd x6_4 x13_28)) = true := bne_iff_ne.mpr c63
                have H' := Aside0.mk H
                clear H
                have p306 : 0 ≤ (x14_28 : Int) := of_decide_eq_true (by first | (with_reducible assumption) | assumption)
                have q306 : x14_28 < (x6_4.length : Int) := of_decide_eq_true (by first | (with_reducible assumption) | assumption)
                obtain ⟨ad306, e306, hx306_0⟩ := Kd.at_int (Kd.R_reads' HO_6.out).2.2 x14_28 p306 q306
                obtain rfl : (⟨go16, 0, none⟩ : Addr) = ad306 := (by injection e306)
                (first | simp only [add_plain] at hx306_0 | simp only [add_at] at hx306_0 | simp only [Addr.add, Nat.zero_add] at hx306_0 | skip)
                replace p306 := eq_true p306
                replace q306 := eq_true q306
                have p307 : 0 ≤ (x14_28 : Int) := of_decide_eq_true (by first | (with_reducible assumption) | assumption)
                have q307 : x14_28 < (x6_4.length : Int) := of_decide_eq_true (by first | (with_reducible assumption) | assumption)
                obtain ⟨ad307, e307, hx307_0⟩ := Kd.at_int (Kd.R_reads' HO_6.out).2.2 x14_28 p307 q307
                obtain rfl : (⟨go16, 0, none⟩ : Addr) = ad307 := (by injection e307)
                (first | simp only [add_plain] at hx307_0 | simp only [add_at] at hx307_0 | simp only [Addr.add, Nat.zero_add] at hx307_0 | skip)
                replace p307 := eq_true p307
                replace q307 := eq_true q307
                have hnb78 := NB305_290.out
                have hnc78 := NB290_305.out
                have hcz79_0 : wc.cell? ⟨gb305, 0, none⟩ = some (.int .i64 ((rd_T54 l0_1 x10_3).f0)) := (blk_cell BK305.out 0).trans rfl
                have hcz79_1 : wc.cell? ⟨gb305, 1, none⟩ = some (.int .i64 ((rd_T54 l0_1 x10_3).f1)) := (blk_cell BK305.out 1).trans rfl
                have hcz79_2 : wc.cell? ⟨gb305, 2, none⟩ = some (.int .i64 ((rd_T54 l0_1 x10_3).f2)) := (blk_cell BK305.out 2).trans rfl
                have hcz79_3 : wc.cell? ⟨gb305, 3, none⟩ = some (.int .i64 ((rd_T54 l0_1 x10_3).f3)) := (blk_cell BK305.out 3).trans rfl
                have hfz79_0 := blk_frozen BK305.out 0
                have hfz79_1 := blk_frozen BK305.out 1
                have hfz79_2 := blk_frozen BK305.out 2
                have hfz79_3 := blk_frozen BK305.out 3
                obtain ⟨Ao80, co80, eo80⟩ := Kd.R_slice HO_7.out
                subst eo80
                have p308 : 0 ≤ (x14_28 : Int) := of_decide_eq_true (by first | (with_reducible assumption) | assumption)
                have q308 : x14_28 < (x7_4.length : Int) := of_decide_eq_true (by first | (with_reducible assumption) | assumption)
                obtain ⟨ad308, e308, hx308_0⟩ := Kd.at_int (Kd.R_reads' HO_7.out).2.2 x14_28 p308 q308
                cases e308
                replace p308 := eq_true p308
                replace q308 := eq_true q308
                have p309 : 0 ≤ (x13_28 : Int) := of_decide_eq_true (by first | (with_reducible assumption) | assumption)
                have q309 : x13_28 < (x6_4.length : Int) := of_decide_eq_true (by first | (with_reducible assumption) | assumption)
                obtain ⟨ad309, e309, hx309_0⟩ := Kd.at_int (Kd.R_reads' HO_6.out).2.2 x13_28 p309 q309
                obtain rfl : (⟨go16, 0, none⟩ : Addr) = ad309 := (by injection e309)
                (first | simp only [add_plain] at hx309_0 | simp only [add_at] at hx309_0 | simp only [Addr.add, Nat.zero_add] at hx309_0 | skip)
                replace p309 := eq_true p309
                replace q309 := eq_true q309
                have p312 : 0 ≤ (x13_28 : Int) := of_decide_eq_true (by first | (with_reducible assumption) | assumption)
                have q312 : x13_28 < (x6_4.length : Int) := of_decide_eq_true (by first | (with_reducible assumption) | assumption)
                obtain ⟨ad312, e312, hx312_0⟩ := Kd.at_int (Kd.R_reads' HO_6.out).2.2 x13_28 p312 q312
                obtain rfl : (⟨go16, 0, none⟩ : Addr) = ad312 := (by injection e312)
                (first | simp only [add_plain] at hx312_0 | simp only [add_at] at hx312_0 | simp only [Addr.add, Nat.zero_add] at hx312_0 | skip)
                replace p312 := eq_true p312
                replace q312 := eq_true q312
                have p315 : 0 ≤ (x13_28 : Int) := of_decide_eq_true (by first | (with_reducible assumption) | assumption)
                have q315 : x13_28 < (x6_4.length : Int) := of_decide_eq_true (by first | (with_reducible assumption) | assumption)
                obtain ⟨ad315, e315, hx315_0⟩ := Kd.at_int (Kd.R_reads' HO_6.out).2.2 x13_28 p315 q315
                obtain rfl : (⟨go16, 0, none⟩ : Addr) = ad315 := (by injection e315)
                (first | simp only [add_plain] at hx315_0 | simp only [add_at] at hx315_0 | simp only [Addr.add, Nat.zero_add] at hx315_0 | skip)
                replace p315 := eq_true p315
                replace q315 := eq_true q315
                go_wp2
                repeat (go_quiet (fail); try go_wp2)
                (try simp only [← hl6_4])
                go_roundg kj28
                case measure => have := HK1.out; have := HK2.out; have := HK3.out; have := HK4.out; have := HJ28.out; omega
                case rel => exact ⟨(x6_4), (x7_4), (wrap64 (x12_4 + 1)), (by first | rfl | (simp; done) | (simp [*]; done)), H', ⟨by have := HK1.out; have := HK2.out; have := HK3.out; have := HK4.out; have := HJ28.out; omega⟩, ⟨by (try simp only [hl6_2]); (try simp only [hl6_3]); (try simp only [hl6_4]); (with_reducible repeat (first | apply Kd.R_alloc | apply Kd.R_drewN | apply Kd.R_drew)); exact HO_6.out⟩, ⟨by (try simp only [hl6_2]); (try simp only [hl6_3]); (try simp only [hl6_4]); (with_reducible repeat (first | apply Kd.R_alloc | apply Kd.R_drewN | apply Kd.R_drew)); exact HO_7.out⟩, ⟨by (try simp only [hl6_2]); (try simp only [hl6_3]); (try simp only [hl6_4]); (with_reducible repeat (first | refine blk_drewN ?_ _ | refine blk_drew ?_ | refine blk_alloc ?_ _)); exact BK290.out⟩, ⟨by (try simp only [hl6_2]); (try simp only [hl6_3]); (try simp only [hl6_4]); (with_reducible repeat (first | refine blk_drewN ?_ _ | refine blk_drew ?_ | refine blk_alloc ?_ _)); exact BK305.out⟩, ⟨by repeat (first | (with_reducible first | exact HB.out | apply below_alloc | apply pw_below_drewN | apply below_drew1 | refine below_set ?_ GE290.out | refine below_set ?_ GE305.out) | exact HB.out)⟩⟩
               rw [if_pos c63] at H
               have c63b0 : ((wrap64 ((rd x6_4 x14_28) + ((rd_T54 l0_1 x10_3).f2))) == (rd x6_4 x13_28)) = true := beq_iff_eq.mpr c63
               have c63b1 : ((wrap64 ((rd x6_4 x14_28) + ((rd_T54 l0_1 x10_3).f2))) != (rd x6_4 x13_28)) = false := bne_eq_false_iff_eq.mpr c63
               clear c63
               by_cases c64 : x13_28 < (x7_4.length : Int)
               rotate_left
               ·rw [if_neg c64] at H
                exact absurd H (by simp)
               rw [if_pos c64] at H
               have c64b0 : decide (x13_28 < (x7_4.length : Int)) = true := decide_eq_true c64
               (try (have c64bL := c64b0; simp only [hl6_2, hl6_3, hl6_4] at c64bL))
               clear c64
               by_cases c65 : (wrap64 ((rd x7_4 x14_28) + 1)) < (rd x7_4 x13_28)
               rotate_left
               ·rw [if_neg c65] at H
                have c65b0 : decide ((wrap64 ((rd x7_4 x14_28) + 1)) < (rd x7_4 x13_28)) = false := decide_eq_false c65
                clear c65
                have H' := Aside0.mk H
                clear H
                have p306 : 0 ≤ (x14_28 : Int) := of_decide_eq_true (by first | (with_reducible assumption) | assumption)
                have q306 : x14_28 < (x6_4.length : Int) := of_decide_eq_true (by first | (with_reducible assumption) | assumption)
                obtain ⟨ad306, e306, hx306_0⟩ := Kd.at_int (Kd.R_reads' HO_6.out).2.2 x14_28 p306 q306
                obtain rfl : (⟨go16, 0, none⟩ : Addr) = ad306 := (by injection e306)
                (first | simp only [add_plain] at hx306_0 | simp only [add_at] at hx306_0 | simp only [Addr.add, Nat.zero_add] at hx306_0 | skip)
                replace p306 := eq_true p306
                replace q306 := eq_true q306
                have p307 : 0 ≤ (x14_28 : Int) := of_decide_eq_true (by first | (with_reducible assumption) | assumption)
                have q307 : x14_28 < (x6_4.length : Int) := of_decide_eq_true (by first | (with_reducible assumption) | assumption)
                obtain ⟨ad307, e307, hx307_0⟩ := Kd.at_int (Kd.R_reads' HO_6.out).2.2 x14_28 p307 q307
                obtain rfl : (⟨go16, 0, none⟩ : Addr) = ad307 := (by injection e307)
                (first | simp only [add_plain] at hx307_0 | simp only [add_at] at hx307_0 | simp only [Addr.add, Nat.zero_add] at hx307_0 | skip)
                replace p307 := eq_true p307
                replace q307 := eq_true q307
                have hnb75 := NB305_290.out
                have hnc75 := NB290_305.out
                have hcz76_0 : wc.cell? ⟨gb305, 0, none⟩ = some (.int .i64 ((rd_T54 l0_1 x10_3).f0)) := (blk_cell BK305.out 0).trans rfl
                have hcz76_1 : wc.cell? ⟨gb305, 1, none⟩ = some (.int .i64 ((rd_T54 l0_1 x10_3).f1)) := (blk_cell BK305.out 1).trans rfl
                have hcz76_2 : wc.cell? ⟨gb305, 2, none⟩ = some (.int .i64 ((rd_T54 l0_1 x10_3).f2)) := (blk_cell BK305.out 2).trans rfl
                have hcz76_3 : wc.cell? ⟨gb305, 3, none⟩ = some (.int .i64 ((rd_T54 l0_1 x10_3).f3)) := (blk_cell BK305.out 3).trans rfl
                have hfz76_0 := blk_frozen BK305.out 0
                have hfz76_1 := blk_frozen BK305.out 1
                have hfz76_2 := blk_frozen BK305.out 2
                have hfz76_3 := blk_frozen BK305.out 3
                obtain ⟨Ao77, co77, eo77⟩ := Kd.R_slice HO_7.out
                subst eo77
                have p308 : 0 ≤ (x14_28 : Int) := of_decide_eq_true (by first | (with_reducible assumption) | assumption)
                have q308 : x14_28 < (x7_4.length : Int) := of_decide_eq_true (by first | (with_reducible assumption) | assumption)
                obtain ⟨ad308, e308, hx308_0⟩ := Kd.at_int (Kd.R_reads' HO_7.out).2.2 x14_28 p308 q308
                cases e308
                replace p308 := eq_true p308
                replace q308 := eq_true q308
                have p309 : 0 ≤ (x13_28 : Int) := of_decide_eq_true (by first | (with_reducible assumption) | assumption)
                have q309 : x13_28 < (x6_4.length : Int) := of_decide_eq_true (by first | (with_reducible assumption) | assumption)
                obtain ⟨ad309, e309, hx309_0⟩ := Kd.at_int (Kd.R_reads' HO_6.out).2.2 x13_28 p309 q309
                obtain rfl : (⟨go16, 0, none⟩ : Addr) = ad309 := (by injection e309)
                (first | simp only [add_plain] at hx309_0 | simp only [add_at] at hx309_0 | simp only [Addr.add, Nat.zero_add] at hx309_0 | skip)
                replace p309 := eq_true p309
                replace q309 := eq_true q309
                have p312 : 0 ≤ (x13_28 : Int) := of_decide_eq_true (by first | (with_reducible assumption) | assumption)
                have q312 : x13_28 < (x6_4.length : Int) := of_decide_eq_true (by first | (with_reducible assumption) | assumption)
                obtain ⟨ad312, e312, hx312_0⟩ := Kd.at_int (Kd.R_reads' HO_6.out).2.2 x13_28 p312 q312
                obtain rfl : (⟨go16, 0, none⟩ : Addr) = ad312 := (by injection e312)
                (first | simp only [add_plain] at hx312_0 | simp only [add_at] at hx312_0 | simp only [Addr.add, Nat.zero_add] at hx312_0 | skip)
                replace p312 := eq_true p312
                replace q312 := eq_true q312
                have p315 : 0 ≤ (x13_28 : Int) := of_decide_eq_true (by first | (with_reducible assumption) | assumption)
                have q315 : x13_28 < (x6_4.length : Int) := of_decide_eq_true (by first | (with_reducible assumption) | assumption)
                obtain ⟨ad315, e315, hx315_0⟩ := Kd.at_int (Kd.R_reads' HO_6.out).2.2 x13_28 p315 q315
                obtain rfl : (⟨go16, 0, none⟩ : Addr) = ad315 := (by injection e315)
                (first | simp only [add_plain] at hx315_0 | simp only [add_at] at hx315_0 | simp only [Addr.add, Nat.zero_add] at hx315_0 | skip)
                replace p315 := eq_true p315
                replace q315 := eq_true q315
                have p316 : 0 ≤ (x13_28 : Int) := of_decide_eq_true (by first | (with_reducible assumption) | assumption)
                have q316 : x13_28 < (x7_4.length : Int) := of_decide_eq_true (by first | (with_reducible assumption) | assumption)
                obtain ⟨ad316, e316, hx316_0⟩ := Kd.at_int (Kd.R_reads' HO_7.out).2.2 x13_28 p316 q316
                obtain rfl : ad308 = ad316 := (by injection e316)
                replace p316 := eq_true p316
                replace q316 := eq_true q316
                go_wp2
                repeat (go_quiet (fail); try go_wp2)
                (try simp only [← hl6_4])
                go_roundg kj28
                case measure => have := HK1.out; have := HK2.out; have := HK3.out; have := HK4.out; have := HJ28.out; omega
                case rel => exact ⟨(x6_4), (x7_4), (wrap64 (x12_4 + 1)), (by first | rfl | (simp; done) | (simp [*]; done)), H', ⟨by have := HK1.out; have := HK2.out; have := HK3.out; have := HK4.out; have := HJ28.out; omega⟩, ⟨by (try simp only [hl6_2]); (try simp only [hl6_3]); (try simp only [hl6_4]); (with_reducible repeat (first | apply Kd.R_alloc | apply Kd.R_drewN | apply Kd.R_drew)); exact HO_6.out⟩, ⟨by (try simp only [hl6_2]); (try simp only [hl6_3]); (try simp only [hl6_4]); (with_reducible repeat (first | apply Kd.R_alloc | apply Kd.R_drewN | apply Kd.R_drew)); exact HO_7.out⟩, ⟨by (try simp only [hl6_2]); (try simp only [hl6_3]); (try simp only [hl6_4]); (with_reducible repeat (first | refine blk_drewN ?_ _ | refine blk_drew ?_ | refine blk_alloc ?_ _)); exact BK290.out⟩, ⟨by (try simp only [hl6_2]); (try simp only [hl6_3]); (try simp only [hl6_4]); (with_reducible repeat (first | refine blk_drewN ?_ _ | refine blk_drew ?_ | refine blk_alloc ?_ _)); exact BK305.out⟩, ⟨by repeat (first | (with_reducible first | exact HB.out | apply below_alloc | apply pw_below_drewN | apply below_drew1 | refine below_set ?_ GE290.out | refine below_set ?_ GE305.out) | exact HB.out)⟩⟩
               rw [if_pos c65] at H
               have c65b0 : decide ((wrap64 ((rd x7_4 x14_28) + 1)) < (rd x7_4 x13_28)) = true := decide_eq_true c65
               clear c65
               obtain ⟨y317, hy317⟩ : ∃ y_ : List Int, y_ = (x6_4.set (x13_28 : Int).toNat (wrap64 ((rd x6_4 x14_28) + ((rd_T54 l0_1 x10_3).f2)))) := ⟨_, rfl⟩
               replace H : (spec_l02Best.l3 kj28 y317 (x7_4.set (x13_28 : Int).toNat (wrap64 ((rd x7_4 x14_28) + 1))) x9_2 x10_3 (wrap64 (x12_4 + 1)) a0_0 l0_1 ((rd_T54 l0_1 x10_3).f0) ((rd_T54 l0_1 x10_3).f1) ((rd_T54 l0_1 x10_3).f2) ((rd_T54 l0_1 x10_3).f3)) = some (r1, r2) := by first | (rw [hy317]; with_reducible exact H) | (have H2_ := (Option.bind_some _ _).symm.trans H; rw [hy317]; with_reducible exact H2_) | (have H2_ := (Option.bind_some _ _).symm.trans H; with_reducible exact H2_) | with_reducible exact H | (rw [hy317]; exact H) | exact H
               have Ny317 := Aside0.mk hy317
               clear hy317
               obtain ⟨y318, hy318⟩ : ∃ y_ : List Int, y_ = (x7_4.set (x13_28 : Int).toNat (wrap64 ((rd x7_4 x14_28) + 1))) := ⟨_, rfl⟩
               replace H : (spec_l02Best.l3 kj28 y317 y318 x9_2 x10_3 (wrap64 (x12_4 + 1)) a0_0 l0_1 ((rd_T54 l0_1 x10_3).f0) ((rd_T54 l0_1 x10_3).f1) ((rd_T54 l0_1 x10_3).f2) ((rd_T54 l0_1 x10_3).f3)) = some (r1, r2) := by first | (rw [hy318]; with_reducible exact H) | (have H2_ := (Option.bind_some _ _).symm.trans H; rw [hy318]; with_reducible exact H2_) | (have H2_ := (Option.bind_some _ _).symm.trans H; with_reducible exact H2_) | with_reducible exact H | (rw [hy318]; exact H) | exact H
               have Ny318 := Aside0.mk hy318
               clear hy318
               have H' := Aside0.mk H
               clear H
               have p306 : 0 ≤ (x14_28 : Int) := of_decide_eq_true (by first | (with_reducible assumption) | assumption)
               have q306 : x14_28 < (x6_4.length : Int) := of_decide_eq_true (by first | (with_reducible assumption) | assumption)
               obtain ⟨ad306, e306, hx306_0⟩ := Kd.at_int (Kd.R_reads' HO_6.out).2.2 x14_28 p306 q306
               obtain rfl : (⟨go16, 0, none⟩ : Addr) = ad306 := (by injection e306)
               (first | simp only [add_plain] at hx306_0 | simp only [add_at] at hx306_0 | simp only [Addr.add, Nat.zero_add] at hx306_0 | skip)
               replace p306 := eq_true p306
               replace q306 := eq_true q306
               have p307 : 0 ≤ (x14_28 : Int) := of_decide_eq_true (by first | (with_reducible assumption) | assumption)
               have q307 : x14_28 < (x6_4.length : Int) := of_decide_eq_true (by first | (with_reducible assumption) | assumption)
               obtain ⟨ad307, e307, hx307_0⟩ := Kd.at_int (Kd.R_reads' HO_6.out).2.2 x14_28 p307 q307
               obtain rfl : (⟨go16, 0, none⟩ : Addr) = ad307 := (by injection e307)
               (first | simp only [add_plain] at hx307_0 | simp only [add_at] at hx307_0 | simp only [Addr.add, Nat.zero_add] at hx307_0 | skip)
               replace p307 := eq_true p307
               replace q307 := eq_true q307
               have hnb68 := NB305_290.out
               have hnc68 := NB290_305.out
               have hcz69_0 : wc.cell? ⟨gb305, 0, none⟩ = some (.int .i64 ((rd_T54 l0_1 x10_3).f0)) := (blk_cell BK305.out 0).trans rfl
               have hcz69_1 : wc.cell? ⟨gb305, 1, none⟩ = some (.int .i64 ((rd_T54 l0_1 x10_3).f1)) := (blk_cell BK305.out 1).trans rfl
               have hcz69_2 : wc.cell? ⟨gb305, 2, none⟩ = some (.int .i64 ((rd_T54 l0_1 x10_3).f2)) := (blk_cell BK305.out 2).trans rfl
               have hcz69_3 : wc.cell? ⟨gb305, 3, none⟩ = some (.int .i64 ((rd_T54 l0_1 x10_3).f3)) := (blk_cell BK305.out 3).trans rfl
               have hfz69_0 := blk_frozen BK305.out 0
               have hfz69_1 := blk_frozen BK305.out 1
               have hfz69_2 := blk_frozen BK305.out 2
               have hfz69_3 := blk_frozen BK305.out 3
               obtain ⟨Ao70, co70, eo70⟩ := Kd.R_slice HO_7.out
               subst eo70
               have p308 : 0 ≤ (x14_28 : Int) := of_decide_eq_true (by first | (with_reducible assumption) | assumption)
               have q308 : x14_28 < (x7_4.length : Int) := of_decide_eq_true (by first | (with_reducible assumption) | assumption)
               obtain ⟨ad308, e308, hx308_0⟩ := Kd.at_int (Kd.R_reads' HO_7.out).2.2 x14_28 p308 q308
               cases e308
               replace p308 := eq_true p308
               replace q308 := eq_true q308
               have p309 : 0 ≤ (x13_28 : Int) := of_decide_eq_true (by first | (with_reducible assumption) | assumption)
               have q309 : x13_28 < (x6_4.length : Int) := of_decide_eq_true (by first | (with_reducible assumption) | assumption)
               obtain ⟨ad309, e309, hx309_0⟩ := Kd.at_int (Kd.R_reads' HO_6.out).2.2 x13_28 p309 q309
               obtain rfl : (⟨go16, 0, none⟩ : Addr) = ad309 := (by injection e309)
               (first | simp only [add_plain] at hx309_0 | simp only [add_at] at hx309_0 | simp only [Addr.add, Nat.zero_add] at hx309_0 | skip)
               replace p309 := eq_true p309
               replace q309 := eq_true q309
               have p312 : 0 ≤ (x13_28 : Int) := of_decide_eq_true (by first | (with_reducible assumption) | assumption)
               have q312 : x13_28 < (x6_4.length : Int) := of_decide_eq_true (by first | (with_reducible assumption) | assumption)
               obtain ⟨ad312, e312, hx312_0⟩ := Kd.at_int (Kd.R_reads' HO_6.out).2.2 x13_28 p312 q312
               obtain rfl : (⟨go16, 0, none⟩ : Addr) = ad312 := (by injection e312)
               (first | simp only [add_plain] at hx312_0 | simp only [add_at] at hx312_0 | simp only [Addr.add, Nat.zero_add] at hx312_0 | skip)
               replace p312 := eq_true p312
               replace q312 := eq_true q312
               have p315 : 0 ≤ (x13_28 : Int) := of_decide_eq_true (by first | (with_reducible assumption) | assumption)
               have q315 : x13_28 < (x6_4.length : Int) := of_decide_eq_true (by first | (with_reducible assumption) | assumption)
               obtain ⟨ad315, e315, hx315_0⟩ := Kd.at_int (Kd.R_reads' HO_6.out).2.2 x13_28 p315 q315
               obtain rfl : (⟨go16, 0, none⟩ : Addr) = ad315 := (by injection e315)
               (first | simp only [add_plain] at hx315_0 | simp only [add_at] at hx315_0 | simp only [Addr.add, Nat.zero_add] at hx315_0 | skip)
               replace p315 := eq_true p315
               replace q315 := eq_true q315
               have p316 : 0 ≤ (x13_28 : Int) := of_decide_eq_true (by first | (with_reducible assumption) | assumption)
               have q316 : x13_28 < (x7_4.length : Int) := of_decide_eq_true (by first | (with_reducible assumption) | assumption)
               obtain ⟨ad316, e316, hx316_0⟩ := Kd.at_int (Kd.R_reads' HO_7.out).2.2 x13_28 p316 q316
               obtain rfl : ad308 = ad316 := (by injection e316)
               replace p316 := eq_true p316
               replace q316 := eq_true q316
               have p66 : 0 ≤ (x13_28 : Int) := of_decide_eq_true (by first | (with_reducible assumption) | assumption)
               have q66 : (x13_28 : Int) < ((x6_4.length : Int) : Int) := of_decide_eq_true (by first | (with_reducible assumption) | assumption)
               obtain ⟨hx66_0, hf66_0⟩ := Kd.R_celln 0 HO_6.out (x13_28 : Int) p66 q66
               replace p66 := eq_true p66
               replace q66 := eq_true q66
               obtain ⟨hy71_, hz71_⟩ := Kd.R_celln 0 HO_6.out (x13_28 : Int) (of_decide_eq_true (by first | (with_reducible assumption) | assumption)) (of_decide_eq_true (by first | (with_reducible assumption) | assumption))
               have HP71 := Kd.R_putg HO_6.out (x13_28 : Int) (wrap64 ((rd x6_4 x14_28) + ((rd_T54 l0_1 x10_3).f2)))
               go_wp2_with (fail)
               repeat (go_quiet (fail); try go_wp2_with (first | ((with_reducible refine gate_store (t := 3) (p := 115) rfl ?_); (try (rw [drewN_self wc]; generalize hq_ : World.drewN wc _ = wc; have n0_ := Aside0.mk (Kd.R_at hq_ HO_6.out); have n1_ := Aside0.mk (Kd.R_at hq_ HO_7.out); have n2_ := Aside0.mk (blk_at hq_ BK290.out); have n3_ := Aside0.mk (blk_at hq_ BK305.out); have n4_ := Aside0.mk (below_at hq_ HB.out); clear hq_ HO_6 HO_7 BK290 BK305 HB; have HO_6 := n0_; have HO_7 := n1_; have BK290 := n2_; have BK305 := n3_; have HB := n4_; clear n0_ n1_ n2_ n3_ n4_; (try (obtain ⟨hy71_, hz71_⟩ := Kd.R_celln 0 HO_6.out (x13_28 : Int) (of_decide_eq_true (by first | (with_reducible assumption) | assumption)) (of_decide_eq_true (by first | (with_reducible assumption) | assumption)))); (try (have HP71 := Kd.R_putg HO_6.out (x13_28 : Int) (wrap64 ((rd x6_4 x14_28) + ((rd_T54 l0_1 x10_3).f2))))))); refine store_event (t := 3) (p := 115) (v := ?vo_w72) (w1 := (wc.setCell ⟨go16, (x13_28 : Int).toNat, none⟩ (.int .i64 (wrap64 ((rd x6_4 x14_28) + ((rd_T54 l0_1 x10_3).f2)))))) ?hg ?ho ?hn ?hr ?_; (case ho => rfl); (case hg => rfl); (case hn => rfl); (case hr => first | (go_simp; done) | (go_simp; rfl)); intro w72 hw; have hg : wc.grownBy w72 (some go16) := (by rw [hw]; exact HP71.2); have hp_ : Kd.R (Kd.int .i64) 3 w72 w.heap.size (fun k_ => some k_ ≠ (.slice (some ad308) x7_4.length co70 : Value).ownBlock) (.slice (some ⟨go16, 0, none⟩) x6_4.length co16) y317 := (by rw [hw, Ny317.out]; exact HP71.1); clear HP71; have n0_ := Aside0.mk (hp_); have n1_ := Aside0.mk (Kd.R_after (v := (.slice (some ⟨go16, 0, none⟩) x6_4.length co16)) (v1 := (.slice (some ⟨go16, 0, none⟩) x6_4.length co16)) (ok := (fun _ => True)) (Kd.R_mono HO_7.out (fun _ hk => ⟨trivial, hk⟩)) hg (.inl rfl)); have n2_ := Aside0.mk (blk_grown (g := gb290) (o := .cells #[.int .i64 a0_0, .slice (some ad304) l0_1.length c0_1] 26 (0, 0)) BK290.out hg (Kd.R_ne HO_6.out BK290.out (by decide))); have n3_ := Aside0.mk (blk_grown (g := gb305) (o := .cells #[.int .i64 ((rd_T54 l0_1 x10_3).f0), .int .i64 ((rd_T54 l0_1 x10_3).f1), .int .i64 ((rd_T54 l0_1 x10_3).f2), .int .i64 ((rd_T54 l0_1 x10_3).f3)] 54 (0, 0)) BK305.out hg (Kd.R_ne HO_6.out BK305.out (by decide))); have n4_ := Aside0.mk ((by rw [hw]; exact below_set (HB.out) GB16.out : Below w.heap.size w w72)); clear HO_6; clear HO_7; clear BK290; clear BK305; clear HB; have HO_6 := n0_; have HO_7 := n1_; have BK290 := n2_; have BK305 := n3_; have HB := n4_; clear n0_ n1_ n2_ n3_ n4_; clear hg hw hp_; have p67 : 0 ≤ (x13_28 : Int) := of_decide_eq_true (by first | (with_reducible assumption) | assumption); have q67 : (x13_28 : Int) < ((x7_4.length : Int) : Int) := of_decide_eq_true (by first | (with_reducible assumption) | assumption); obtain ⟨go67, co67, eo67, gb67, gl67, cl67, HG67⟩ := Kd.R_form HO_7.out (by omega); (first | cases eo67 | (injection eo67 with ea_ en_ ec_; (first | subst ea_ | (injection ea_ with ea_; subst ea_)); subst ec_; clear en_)); have GB67 := Aside0.mk gb67; have GG67 := Aside0.mk HG67; clear gb67 gl67 HG67; (first | simp only [add_plain] at hx308_0 | skip); (first | simp only [add_plain] at hx316_0 | skip); obtain ⟨hx67_0, hf67_0⟩ := Kd.R_celln 0 HO_7.out (x13_28 : Int) p67 q67; replace p67 := eq_true p67; replace q67 := eq_true q67; have n_ := Aside0.mk (Kd.R_mono (ok' := (fun k_ => some k_ ≠ (.slice (some ⟨go16, 0, none⟩) x6_4.length co16 : Value).ownBlock)) HO_7.out (fun k_ hk => hk.2)); clear HO_7; have HO_7 := n_; clear n_; obtain ⟨hy73_, hz73_⟩ := Kd.R_celln 0 HO_7.out (x13_28 : Int) (of_decide_eq_true (by first | (with_reducible assumption) | assumption)) (of_decide_eq_true (by first | (with_reducible assumption) | assumption)); have HP73 := Kd.R_putg HO_7.out (x13_28 : Int) (wrap64 ((rd x7_4 x14_28) + 1))) | ((with_reducible refine gate_store (t := 3) (p := 119) rfl ?_); (try (rw [drewN_self w72]; generalize hq_ : World.drewN w72 _ = w72; have n0_ := Aside0.mk (Kd.R_at hq_ HO_6.out); have n1_ := Aside0.mk (Kd.R_at hq_ HO_7.out); have n2_ := Aside0.mk (blk_at hq_ BK290.out); have n3_ := Aside0.mk (blk_at hq_ BK305.out); have n4_ := Aside0.mk (below_at hq_ HB.out); clear hq_ HO_6 HO_7 BK290 BK305 HB; have HO_6 := n0_; have HO_7 := n1_; have BK290 := n2_; have BK305 := n3_; have HB := n4_; clear n0_ n1_ n2_ n3_ n4_; (try (have n_ := Aside0.mk (Kd.R_mono (ok' := (fun k_ => some k_ ≠ (.slice (some ⟨go16, 0, none⟩) x6_4.length co16 : Value).ownBlock)) HO_7.out (fun k_ hk => hk.2)); clear HO_7; have HO_7 := n_; clear n_)); (try (obtain ⟨hy73_, hz73_⟩ := Kd.R_celln 0 HO_7.out (x13_28 : Int) (of_decide_eq_true (by first | (with_reducible assumption) | assumption)) (of_decide_eq_true (by first | (with_reducible assumption) | assumption)))); (try (have HP73 := Kd.R_putg HO_7.out (x13_28 : Int) (wrap64 ((rd x7_4 x14_28) + 1)))))); refine store_event (t := 3) (p := 119) (v := ?vo_w74) (w1 := (w72.setCell ⟨go67, (x13_28 : Int).toNat, none⟩ (.int .i64 (wrap64 ((rd x7_4 x14_28) + 1))))) ?hg ?ho ?hn ?hr ?_; (case ho => rfl); (case hg => rfl); (case hn => rfl); (case hr => first | (go_simp; done) | (go_simp; rfl)); intro w74 hw; have hg : w72.grownBy w74 (some go67) := (by rw [hw]; exact HP73.2); have hp_ : Kd.R (Kd.int .i64) 3 w74 w.heap.size (fun k_ => some k_ ≠ (.slice (some ⟨go16, 0, none⟩) x6_4.length co16 : Value).ownBlock) (.slice (some ⟨go67, 0, none⟩) x7_4.length co70) y318 := (by rw [hw, Ny318.out]; exact HP73.1); clear HP73; have n0_ := Aside0.mk (Kd.R_after (v := (.slice (some ⟨go67, 0, none⟩) x7_4.length co70)) (v1 := (.slice (some ⟨go67, 0, none⟩) x7_4.length co70)) (ok := (fun _ => True)) (Kd.R_mono HO_6.out (fun _ hk => ⟨trivial, hk⟩)) hg (.inl rfl)); have n1_ := Aside0.mk (hp_); have n2_ := Aside0.mk (blk_grown (g := gb290) (o := .cells #[.int .i64 a0_0, .slice (some ad304) l0_1.length c0_1] 26 (0, 0)) BK290.out hg (Kd.R_ne HO_7.out BK290.out (by decide))); have n3_ := Aside0.mk (blk_grown (g := gb305) (o := .cells #[.int .i64 ((rd_T54 l0_1 x10_3).f0), .int .i64 ((rd_T54 l0_1 x10_3).f1), .int .i64 ((rd_T54 l0_1 x10_3).f2), .int .i64 ((rd_T54 l0_1 x10_3).f3)] 54 (0, 0)) BK305.out hg (Kd.R_ne HO_7.out BK305.out (by decide))); have n4_ := Aside0.mk ((by rw [hw]; exact below_set (HB.out) GB67.out : Below w.heap.size w w74)); clear HO_6; clear HO_7; clear BK290; clear BK305; clear HB; have HO_6 := n0_; have HO_7 := n1_; have BK290 := n2_; have BK305 := n3_; have HB := n4_; clear n0_ n1_ n2_ n3_ n4_; clear hg hw hp_)))
               (try simp only [← hl6_4])
               go_roundg kj28
               case measure => have := HK1.out; have := HK2.out; have := HK3.out; have := HK4.out; have := HJ28.out; omega
               case rel => exact ⟨(y317), (y318), (wrap64 (x12_4 + 1)), (by first | rfl | (simp; done) | (simp [*]; done)), H', ⟨by have := HK1.out; have := HK2.out; have := HK3.out; have := HK4.out; have := HJ28.out; omega⟩, ⟨by (try simp only [hl6_2]); (try simp only [hl6_3]); (try simp only [hl6_4]); (with_reducible repeat (first | apply Kd.R_alloc | apply Kd.R_drewN | apply Kd.R_drew)); exact Kd.R_mono HO_6.out (fun _ hk => hk.2)⟩, ⟨by (try simp only [hl6_2]); (try simp only [hl6_3]); (try simp only [hl6_4]); (with_reducible repeat (first | apply Kd.R_alloc | apply Kd.R_drewN | apply Kd.R_drew)); exact HO_7.out⟩, ⟨by (try simp only [hl6_2]); (try simp only [hl6_3]); (try simp only [hl6_4]); (with_reducible repeat (first | refine blk_drewN ?_ _ | refine blk_drew ?_ | refine blk_alloc ?_ _)); exact BK290.out⟩, ⟨by (try simp only [hl6_2]); (try simp only [hl6_3]); (try simp only [hl6_4]); (with_reducible repeat (first | refine blk_drewN ?_ _ | refine blk_drew ?_ | refine blk_alloc ?_ _)); exact BK305.out⟩, ⟨by repeat (first | (with_reducible first | exact HB.out | apply below_alloc | apply pw_below_drewN | apply below_drew1 | refine below_set ?_ GE290.out | refine below_set ?_ GE305.out) | exact HB.out)⟩⟩
              rw [if_pos c52] at H
              have c52b0 : decide ((wrap64 ((rd x6_4 x14_28) + ((rd_T54 l0_1 x10_3).f2))) < (rd x6_4 x13_28)) = true := decide_eq_true c52
              clear c52
              obtain ⟨y313, hy313⟩ : ∃ y_ : List Int, y_ = (x6_4.set (x13_28 : Int).toNat (wrap64 ((rd x6_4 x14_28) + ((rd_T54 l0_1 x10_3).f2)))) := ⟨_, rfl⟩
              replace H : (if x13_28 < (x7_4.length : Int) then (spec_l02Best.l3 kj28 y313 (x7_4.set (x13_28 : Int).toNat (wrap64 ((rd x7_4 x14_28) + 1))) x9_2 x10_3 (wrap64 (x12_4 + 1)) a0_0 l0_1 ((rd_T54 l0_1 x10_3).f0) ((rd_T54 l0_1 x10_3).f1) ((rd_T54 l0_1 x10_3).f2) ((rd_T54 l0_1 x10_3).f3)) else (none)) = some (r1, r2) := by first | (rw [hy313]; with_reducible exact H) | (have H2_ := (Option.bind_some _ _).symm.trans H; rw [hy313]; with_reducible exact H2_) | (have H2_ := (Option.bind_some _ _).symm.trans H; with_reducible exact H2_) | with_reducible exact H | (rw [hy313]; exact H) | exact H
              have Ny313 := Aside0.mk hy313
              clear hy313
              by_cases c54 : x13_28 < (x7_4.length : Int)
              rotate_left
              ·rw [if_neg c54] at H
               exact absurd H (by simp)
              rw [if_pos c54] at H
              have c54b0 : decide (x13_28 < (x7_4.length : Int)) = true := decide_eq_true c54
              (try (have c54bL := c54b0; simp only [hl6_2, hl6_3, hl6_4] at c54bL))
              clear c54
              obtain ⟨y314, hy314⟩ : ∃ y_ : List Int, y_ = (x7_4.set (x13_28 : Int).toNat (wrap64 ((rd x7_4 x14_28) + 1))) := ⟨_, rfl⟩
              replace H : (spec_l02Best.l3 kj28 y313 y314 x9_2 x10_3 (wrap64 (x12_4 + 1)) a0_0 l0_1 ((rd_T54 l0_1 x10_3).f0) ((rd_T54 l0_1 x10_3).f1) ((rd_T54 l0_1 x10_3).f2) ((rd_T54 l0_1 x10_3).f3)) = some (r1, r2) := by first | (rw [hy314]; with_reducible exact H) | (have H2_ := (Option.bind_some _ _).symm.trans H; rw [hy314]; with_reducible exact H2_) | (have H2_ := (Option.bind_some _ _).symm.trans H; with_reducible exact H2_) | with_reducible exact H | (rw [hy314]; exact H) | exact H
              have Ny314 := Aside0.mk hy314
              clear hy314
              have H' := Aside0.mk H
              clear H
              have p306 : 0 ≤ (x14_28 : Int) := of_decide_eq_true (by first | (with_reducible assumption) | assumption)
              have q306 : x14_28 < (x6_4.length : Int) := of_decide_eq_true (by first | (with_reducible assumption) | assumption)
              obtain ⟨ad306, e306, hx306_0⟩ := Kd.at_int (Kd.R_reads' HO_6.out).2.2 x14_28 p306 q306
              obtain rfl : (⟨go16, 0, none⟩ : Addr) = ad306 := (by injection e306)
              (first | simp only [add_plain] at hx306_0 | simp only [add_at] at hx306_0 | simp only [Addr.add, Nat.zero_add] at hx306_0 | skip)
              replace p306 := eq_true p306
              replace q306 := eq_true q306
              have p307 : 0 ≤ (x14_28 : Int) := of_decide_eq_true (by first | (with_reducible assumption) | assumption)
              have q307 : x14_28 < (x6_4.length : Int) := of_decide_eq_true (by first | (with_reducible assumption) | assumption)
              obtain ⟨ad307, e307, hx307_0⟩ := Kd.at_int (Kd.R_reads' HO_6.out).2.2 x14_28 p307 q307
              obtain rfl : (⟨go16, 0, none⟩ : Addr) = ad307 := (by injection e307)
              (first | simp only [add_plain] at hx307_0 | simp only [add_at] at hx307_0 | simp only [Addr.add, Nat.zero_add] at hx307_0 | skip)
              replace p307 := eq_true p307
              replace q307 := eq_true q307
              have hnb56 := NB305_290.out
              have hnc56 := NB290_305.out
              have hcz57_0 : wc.cell? ⟨gb305, 0, none⟩ = some (.int .i64 ((rd_T54 l0_1 x10_3).f0)) := (blk_cell BK305.out 0).trans rfl
              have hcz57_1 : wc.cell? ⟨gb305, 1, none⟩ = some (.int .i64 ((rd_T54 l0_1 x10_3).f1)) := (blk_cell BK305.out 1).trans rfl
              have hcz57_2 : wc.cell? ⟨gb305, 2, none⟩ = some (.int .i64 ((rd_T54 l0_1 x10_3).f2)) := (blk_cell BK305.out 2).trans rfl
              have hcz57_3 : wc.cell? ⟨gb305, 3, none⟩ = some (.int .i64 ((rd_T54 l0_1 x10_3).f3)) := (blk_cell BK305.out 3).trans rfl
              have hfz57_0 := blk_frozen BK305.out 0
              have hfz57_1 := blk_frozen BK305.out 1
              have hfz57_2 := blk_frozen BK305.out 2
              have hfz57_3 := blk_frozen BK305.out 3
              obtain ⟨Ao58, co58, eo58⟩ := Kd.R_slice HO_7.out
              subst eo58
              have p308 : 0 ≤ (x14_28 : Int) := of_decide_eq_true (by first | (with_reducible assumption) | assumption)
              have q308 : x14_28 < (x7_4.length : Int) := of_decide_eq_true (by first | (with_reducible assumption) | assumption)
              obtain ⟨ad308, e308, hx308_0⟩ := Kd.at_int (Kd.R_reads' HO_7.out).2.2 x14_28 p308 q308
              cases e308
              replace p308 := eq_true p308
              replace q308 := eq_true q308
              have p309 : 0 ≤ (x13_28 : Int) := of_decide_eq_true (by first | (with_reducible assumption) | assumption)
              have q309 : x13_28 < (x6_4.length : Int) := of_decide_eq_true (by first | (with_reducible assumption) | assumption)
              obtain ⟨ad309, e309, hx309_0⟩ := Kd.at_int (Kd.R_reads' HO_6.out).2.2 x13_28 p309 q309
              obtain rfl : (⟨go16, 0, none⟩ : Addr) = ad309 := (by injection e309)
              (first | simp only [add_plain] at hx309_0 | simp only [add_at] at hx309_0 | simp only [Addr.add, Nat.zero_add] at hx309_0 | skip)
              replace p309 := eq_true p309
              replace q309 := eq_true q309
              have p312 : 0 ≤ (x13_28 : Int) := of_decide_eq_true (by first | (with_reducible assumption) | assumption)
              have q312 : x13_28 < (x6_4.length : Int) := of_decide_eq_true (by first | (with_reducible assumption) | assumption)
              obtain ⟨ad312, e312, hx312_0⟩ := Kd.at_int (Kd.R_reads' HO_6.out).2.2 x13_28 p312 q312
              obtain rfl : (⟨go16, 0, none⟩ : Addr) = ad312 := (by injection e312)
              (first | simp only [add_plain] at hx312_0 | simp only [add_at] at hx312_0 | simp only [Addr.add, Nat.zero_add] at hx312_0 | skip)
              replace p312 := eq_true p312
              replace q312 := eq_true q312
              have p53 : 0 ≤ (x13_28 : Int) := of_decide_eq_true (by first | (with_reducible assumption) | assumption)
              have q53 : (x13_28 : Int) < ((x6_4.length : Int) : Int) := of_decide_eq_true (by first | (with_reducible assumption) | assumption)
              obtain ⟨hx53_0, hf53_0⟩ := Kd.R_celln 0 HO_6.out (x13_28 : Int) p53 q53
              replace p53 := eq_true p53
              replace q53 := eq_true q53
              obtain ⟨hy59_, hz59_⟩ := Kd.R_celln 0 HO_6.out (x13_28 : Int) (of_decide_eq_true (by first | (with_reducible assumption) | assumption)) (of_decide_eq_true (by first | (with_reducible assumption) | assumption))
              have HP59 := Kd.R_putg HO_6.out (x13_28 : Int) (wrap64 ((rd x6_4 x14_28) + ((rd_T54 l0_1 x10_3).f2)))
              go_wp2_with (fail)
              repeat (go_quiet (fail); try go_wp2_with (first | ((with_reducible refine gate_store (t := 3) (p := 115) rfl ?_); (try (rw [drewN_self wc]; generalize hq_ : World.drewN wc _ = wc; have n0_ := Aside0.mk (Kd.R_at hq_ HO_6.out); have n1_ := Aside0.mk (Kd.R_at hq_ HO_7.out); have n2_ := Aside0.mk (blk_at hq_ BK290.out); have n3_ := Aside0.mk (blk_at hq_ BK305.out); have n4_ := Aside0.mk (below_at hq_ HB.out); clear hq_ HO_6 HO_7 BK290 BK305 HB; have HO_6 := n0_; have HO_7 := n1_; have BK290 := n2_; have BK305 := n3_; have HB := n4_; clear n0_ n1_ n2_ n3_ n4_; (try (obtain ⟨hy59_, hz59_⟩ := Kd.R_celln 0 HO_6.out (x13_28 : Int) (of_decide_eq_true (by first | (with_reducible assumption) | assumption)) (of_decide_eq_true (by first | (with_reducible assumption) | assumption)))); (try (have HP59 := Kd.R_putg HO_6.out (x13_28 : Int) (wrap64 ((rd x6_4 x14_28) + ((rd_T54 l0_1 x10_3).f2))))))); refine store_event (t := 3) (p := 115) (v := ?vo_w60) (w1 := (wc.setCell ⟨go16, (x13_28 : Int).toNat, none⟩ (.int .i64 (wrap64 ((rd x6_4 x14_28) + ((rd_T54 l0_1 x10_3).f2)))))) ?hg ?ho ?hn ?hr ?_; (case ho => rfl); (case hg => rfl); (case hn => rfl); (case hr => first | (go_simp; done) | (go_simp; rfl)); intro w60 hw; have hg : wc.grownBy w60 (some go16) := (by rw [hw]; exact HP59.2); have hp_ : Kd.R (Kd.int .i64) 3 w60 w.heap.size (fun k_ => some k_ ≠ (.slice (some ad308) x7_4.length co58 : Value).ownBlock) (.slice (some ⟨go16, 0, none⟩) x6_4.length co16) y313 := (by rw [hw, Ny313.out]; exact HP59.1); clear HP59; have n0_ := Aside0.mk (hp_); have n1_ := Aside0.mk (Kd.R_after (v := (.slice (some ⟨go16, 0, none⟩) x6_4.length co16)) (v1 := (.slice (some ⟨go16, 0, none⟩) x6_4.length co16)) (ok := (fun _ => True)) (Kd.R_mono HO_7.out (fun _ hk => ⟨trivial, hk⟩)) hg (.inl rfl)); have n2_ := Aside0.mk (blk_grown (g := gb290) (o := .cells #[.int .i64 a0_0, .slice (some ad304) l0_1.length c0_1] 26 (0, 0)) BK290.out hg (Kd.R_ne HO_6.out BK290.out (by decide))); have n3_ := Aside0.mk (blk_grown (g := gb305) (o := .cells #[.int .i64 ((rd_T54 l0_1 x10_3).f0), .int .i64 ((rd_T54 l0_1 x10_3).f1), .int .i64 ((rd_T54 l0_1 x10_3).f2), .int .i64 ((rd_T54 l0_1 x10_3).f3)] 54 (0, 0)) BK305.out hg (Kd.R_ne HO_6.out BK305.out (by decide))); have n4_ := Aside0.mk ((by rw [hw]; exact below_set (HB.out) GB16.out : Below w.heap.size w w60)); clear HO_6; clear HO_7; clear BK290; clear BK305; clear HB; have HO_6 := n0_; have HO_7 := n1_; have BK290 := n2_; have BK305 := n3_; have HB := n4_; clear n0_ n1_ n2_ n3_ n4_; clear hg hw hp_; have p55 : 0 ≤ (x13_28 : Int) := of_decide_eq_true (by first | (with_reducible assumption) | assumption); have q55 : (x13_28 : Int) < ((x7_4.length : Int) : Int) := of_decide_eq_true (by first | (with_reducible assumption) | assumption); obtain ⟨go55, co55, eo55, gb55, gl55, cl55, HG55⟩ := Kd.R_form HO_7.out (by omega); (first | cases eo55 | (injection eo55 with ea_ en_ ec_; (first | subst ea_ | (injection ea_ with ea_; subst ea_)); subst ec_; clear en_)); have GB55 := Aside0.mk gb55; have GG55 := Aside0.mk HG55; clear gb55 gl55 HG55; (first | simp only [add_plain] at hx308_0 | skip); obtain ⟨hx55_0, hf55_0⟩ := Kd.R_celln 0 HO_7.out (x13_28 : Int) p55 q55; replace p55 := eq_true p55; replace q55 := eq_true q55; have n_ := Aside0.mk (Kd.R_mono (ok' := (fun k_ => some k_ ≠ (.slice (some ⟨go16, 0, none⟩) x6_4.length co16 : Value).ownBlock)) HO_7.out (fun k_ hk => hk.2)); clear HO_7; have HO_7 := n_; clear n_; obtain ⟨hy61_, hz61_⟩ := Kd.R_celln 0 HO_7.out (x13_28 : Int) (of_decide_eq_true (by first | (with_reducible assumption) | assumption)) (of_decide_eq_true (by first | (with_reducible assumption) | assumption)); have HP61 := Kd.R_putg HO_7.out (x13_28 : Int) (wrap64 ((rd x7_4 x14_28) + 1))) | ((with_reducible refine gate_store (t := 3) (p := 119) rfl ?_); (try (rw [drewN_self w60]; generalize hq_ : World.drewN w60 _ = w60; have n0_ := Aside0.mk (Kd.R_at hq_ HO_6.out); have n1_ := Aside0.mk (Kd.R_at hq_ HO_7.out); have n2_ := Aside0.mk (blk_at hq_ BK290.out); have n3_ := Aside0.mk (blk_at hq_ BK305.out); have n4_ := Aside0.mk (below_at hq_ HB.out); clear hq_ HO_6 HO_7 BK290 BK305 HB; have HO_6 := n0_; have HO_7 := n1_; have BK290 := n2_; have BK305 := n3_; have HB := n4_; clear n0_ n1_ n2_ n3_ n4_; (try (have n_ := Aside0.mk (Kd.R_mono (ok' := (fun k_ => some k_ ≠ (.slice (some ⟨go16, 0, none⟩) x6_4.length co16 : Value).ownBlock)) HO_7.out (fun k_ hk => hk.2)); clear HO_7; have HO_7 := n_; clear n_)); (try (obtain ⟨hy61_, hz61_⟩ := Kd.R_celln 0 HO_7.out (x13_28 : Int) (of_decide_eq_true (by first | (with_reducible assumption) | assumption)) (of_decide_eq_true (by first | (with_reducible assumption) | assumption)))); (try (have HP61 := Kd.R_putg HO_7.out (x13_28 : Int) (wrap64 ((rd x7_4 x14_28) + 1)))))); refine store_event (t := 3) (p := 119) (v := ?vo_w62) (w1 := (w60.setCell ⟨go55, (x13_28 : Int).toNat, none⟩ (.int .i64 (wrap64 ((rd x7_4 x14_28) + 1))))) ?hg ?ho ?hn ?hr ?_; (case ho => rfl); (case hg => rfl); (case hn => rfl); (case hr => first | (go_simp; done) | (go_simp; rfl)); intro w62 hw; have hg : w60.grownBy w62 (some go55) := (by rw [hw]; exact HP61.2); have hp_ : Kd.R (Kd.int .i64) 3 w62 w.heap.size (fun k_ => some k_ ≠ (.slice (some ⟨go16, 0, none⟩) x6_4.length co16 : Value).ownBlock) (.slice (some ⟨go55, 0, none⟩) x7_4.length co58) y314 := (by rw [hw, Ny314.out]; exact HP61.1); clear HP61; have n0_ := Aside0.mk (Kd.R_after (v := (.slice (some ⟨go55, 0, none⟩) x7_4.length co58)) (v1 := (.slice (some ⟨go55, 0, none⟩) x7_4.length co58)) (ok := (fun _ => True)) (Kd.R_mono HO_6.out (fun _ hk => ⟨trivial, hk⟩)) hg (.inl rfl)); have n1_ := Aside0.mk (hp_); have n2_ := Aside0.mk (blk_grown (g := gb290) (o := .cells #[.int .i64 a0_0, .slice (some ad304) l0_1.length c0_1] 26 (0, 0)) BK290.out hg (Kd.R_ne HO_7.out BK290.out (by decide))); have n3_ := Aside0.mk (blk_grown (g := gb305) (o := .cells #[.int .i64 ((rd_T54 l0_1 x10_3).f0), .int .i64 ((rd_T54 l0_1 x10_3).f1), .int .i64 ((rd_T54 l0_1 x10_3).f2), .int .i64 ((rd_T54 l0_1 x10_3).f3)] 54 (0, 0)) BK305.out hg (Kd.R_ne HO_7.out BK305.out (by decide))); have n4_ := Aside0.mk ((by rw [hw]; exact below_set (HB.out) GB55.out : Below w.heap.size w w62)); clear HO_6; clear HO_7; clear BK290; clear BK305; clear HB; have HO_6 := n0_; have HO_7 := n1_; have BK290 := n2_; have BK305 := n3_; have HB := n4_; clear n0_ n1_ n2_ n3_ n4_; clear hg hw hp_)))
              (try simp only [← hl6_4])
              go_roundg kj28
              case measure => have := HK1.out; have := HK2.out; have := HK3.out; have := HK4.out; have := HJ28.out; omega
              case rel => exact ⟨(y313), (y314), (wrap64 (x12_4 + 1)), (by first | rfl | (simp; done) | (simp [*]; done)), H', ⟨by have := HK1.out; have := HK2.out; have := HK3.out; have := HK4.out; have := HJ28.out; omega⟩, ⟨by (try simp only [hl6_2]); (try simp only [hl6_3]); (try simp only [hl6_4]); (with_reducible repeat (first | apply Kd.R_alloc | apply Kd.R_drewN | apply Kd.R_drew)); exact Kd.R_mono HO_6.out (fun _ hk => hk.2)⟩, ⟨by (try simp only [hl6_2]); (try simp only [hl6_3]); (try simp only [hl6_4]); (with_reducible repeat (first | apply Kd.R_alloc | apply Kd.R_drewN | apply Kd.R_drew)); exact HO_7.out⟩, ⟨by (try simp only [hl6_2]); (try simp only [hl6_3]); (try simp only [hl6_4]); (with_reducible repeat (first | refine blk_drewN ?_ _ | refine blk_drew ?_ | refine blk_alloc ?_ _)); exact BK290.out⟩, ⟨by (try simp only [hl6_2]); (try simp only [hl6_3]); (try simp only [hl6_4]); (with_reducible repeat (first | refine blk_drewN ?_ _ | refine blk_drew ?_ | refine blk_alloc ?_ _)); exact BK305.out⟩, ⟨by repeat (first | (with_reducible first | exact HB.out | apply below_alloc | apply pw_below_drewN | apply below_drew1 | refine below_set ?_ GE290.out | refine below_set ?_ GE305.out) | exact HB.out)⟩⟩
             rw [if_pos c41] at H
             have c41b0 : decide ((rd x6_4 x13_28) < 0) = true := decide_eq_true c41
             clear c41
             obtain ⟨y310, hy310⟩ : ∃ y_ : List Int, y_ = (x6_4.set (x13_28 : Int).toNat (wrap64 ((rd x6_4 x14_28) + ((rd_T54 l0_1 x10_3).f2)))) := ⟨_, rfl⟩
             replace H : (if x13_28 < (x7_4.length : Int) then (spec_l02Best.l3 kj28 y310 (x7_4.set (x13_28 : Int).toNat (wrap64 ((rd x7_4 x14_28) + 1))) x9_2 x10_3 (wrap64 (x12_4 + 1)) a0_0 l0_1 ((rd_T54 l0_1 x10_3).f0) ((rd_T54 l0_1 x10_3).f1) ((rd_T54 l0_1 x10_3).f2) ((rd_T54 l0_1 x10_3).f3)) else (none)) = some (r1, r2) := by first | (rw [hy310]; with_reducible exact H) | (have H2_ := (Option.bind_some _ _).symm.trans H; rw [hy310]; with_reducible exact H2_) | (have H2_ := (Option.bind_some _ _).symm.trans H; with_reducible exact H2_) | with_reducible exact H | (rw [hy310]; exact H) | exact H
             have Ny310 := Aside0.mk hy310
             clear hy310
             by_cases c43 : x13_28 < (x7_4.length : Int)
             rotate_left
             ·rw [if_neg c43] at H
              exact absurd H (by simp)
             rw [if_pos c43] at H
             have c43b0 : decide (x13_28 < (x7_4.length : Int)) = true := decide_eq_true c43
             (try (have c43bL := c43b0; simp only [hl6_2, hl6_3, hl6_4] at c43bL))
             clear c43
             obtain ⟨y311, hy311⟩ : ∃ y_ : List Int, y_ = (x7_4.set (x13_28 : Int).toNat (wrap64 ((rd x7_4 x14_28) + 1))) := ⟨_, rfl⟩
             replace H : (spec_l02Best.l3 kj28 y310 y311 x9_2 x10_3 (wrap64 (x12_4 + 1)) a0_0 l0_1 ((rd_T54 l0_1 x10_3).f0) ((rd_T54 l0_1 x10_3).f1) ((rd_T54 l0_1 x10_3).f2) ((rd_T54 l0_1 x10_3).f3)) = some (r1, r2) := by first | (rw [hy311]; with_reducible exact H) | (have H2_ := (Option.bind_some _ _).symm.trans H; rw [hy311]; with_reducible exact H2_) | (have H2_ := (Option.bind_some _ _).symm.trans H; with_reducible exact H2_) | with_reducible exact H | (rw [hy311]; exact H) | exact H
             have Ny311 := Aside0.mk hy311
             clear hy311
             have H' := Aside0.mk H
             clear H
             have p306 : 0 ≤ (x14_28 : Int) := of_decide_eq_true (by first | (with_reducible assumption) | assumption)
             have q306 : x14_28 < (x6_4.length : Int) := of_decide_eq_true (by first | (with_reducible assumption) | assumption)
             obtain ⟨ad306, e306, hx306_0⟩ := Kd.at_int (Kd.R_reads' HO_6.out).2.2 x14_28 p306 q306
             obtain rfl : (⟨go16, 0, none⟩ : Addr) = ad306 := (by injection e306)
             (first | simp only [add_plain] at hx306_0 | simp only [add_at] at hx306_0 | simp only [Addr.add, Nat.zero_add] at hx306_0 | skip)
             replace p306 := eq_true p306
             replace q306 := eq_true q306
             have p307 : 0 ≤ (x14_28 : Int) := of_decide_eq_true (by first | (with_reducible assumption) | assumption)
             have q307 : x14_28 < (x6_4.length : Int) := of_decide_eq_true (by first | (with_reducible assumption) | assumption)
             obtain ⟨ad307, e307, hx307_0⟩ := Kd.at_int (Kd.R_reads' HO_6.out).2.2 x14_28 p307 q307
             obtain rfl : (⟨go16, 0, none⟩ : Addr) = ad307 := (by injection e307)
             (first | simp only [add_plain] at hx307_0 | simp only [add_at] at hx307_0 | simp only [Addr.add, Nat.zero_add] at hx307_0 | skip)
             replace p307 := eq_true p307
             replace q307 := eq_true q307
             have hnb45 := NB305_290.out
             have hnc45 := NB290_305.out
             have hcz46_0 : wc.cell? ⟨gb305, 0, none⟩ = some (.int .i64 ((rd_T54 l0_1 x10_3).f0)) := (blk_cell BK305.out 0).trans rfl
             have hcz46_1 : wc.cell? ⟨gb305, 1, none⟩ = some (.int .i64 ((rd_T54 l0_1 x10_3).f1)) := (blk_cell BK305.out 1).trans rfl
             have hcz46_2 : wc.cell? ⟨gb305, 2, none⟩ = some (.int .i64 ((rd_T54 l0_1 x10_3).f2)) := (blk_cell BK305.out 2).trans rfl
             have hcz46_3 : wc.cell? ⟨gb305, 3, none⟩ = some (.int .i64 ((rd_T54 l0_1 x10_3).f3)) := (blk_cell BK305.out 3).trans rfl
             have hfz46_0 := blk_frozen BK305.out 0
             have hfz46_1 := blk_frozen BK305.out 1
             have hfz46_2 := blk_frozen BK305.out 2
             have hfz46_3 := blk_frozen BK305.out 3
             obtain ⟨Ao47, co47, eo47⟩ := Kd.R_slice HO_7.out
             subst eo47
             have p308 : 0 ≤ (x14_28 : Int) := of_decide_eq_true (by first | (with_reducible assumption) | assumption)
             have q308 : x14_28 < (x7_4.length : Int) := of_decide_eq_true (by first | (with_reducible assumption) | assumption)
             obtain ⟨ad308, e308, hx308_0⟩ := Kd.at_int (Kd.R_reads' HO_7.out).2.2 x14_28 p308 q308
             cases e308
             replace p308 := eq_true p308
             replace q308 := eq_true q308
             have p309 : 0 ≤ (x13_28 : Int) := of_decide_eq_true (by first | (with_reducible assumption) | assumption)
             have q309 : x13_28 < (x6_4.length : Int) := of_decide_eq_true (by first | (with_reducible assumption) | assumption)
             obtain ⟨ad309, e309, hx309_0⟩ := Kd.at_int (Kd.R_reads' HO_6.out).2.2 x13_28 p309 q309
             obtain rfl : (⟨go16, 0, none⟩ : Addr) = ad309 := (by injection e309)
             (first | simp only [add_plain] at hx309_0 | simp only [add_at] at hx309_0 | simp only [Addr.add, Nat.zero_add] at hx309_0 | skip)
             replace p309 := eq_true p309
             replace q309 := eq_true q309
             have p42 : 0 ≤ (x13_28 : Int) := of_decide_eq_true (by first | (with_reducible assumption) | assumption)
             have q42 : (x13_28 : Int) < ((x6_4.length : Int) : Int) := of_decide_eq_true (by first | (with_reducible assumption) | assumption)
             obtain ⟨hx42_0, hf42_0⟩ := Kd.R_celln 0 HO_6.out (x13_28 : Int) p42 q42
             replace p42 := eq_true p42
             replace q42 := eq_true q42
             obtain ⟨hy48_, hz48_⟩ := Kd.R_celln 0 HO_6.out (x13_28 : Int) (of_decide_eq_true (by first | (with_reducible assumption) | assumption)) (of_decide_eq_true (by first | (with_reducible assumption) | assumption))
             have HP48 := Kd.R_putg HO_6.out (x13_28 : Int) (wrap64 ((rd x6_4 x14_28) + ((rd_T54 l0_1 x10_3).f2)))
             go_wp2_with (fail)
             repeat (go_quiet (fail); try go_wp2_with (first | ((with_reducible refine gate_store (t := 3) (p := 115) rfl ?_); (try (rw [drewN_self wc]; generalize hq_ : World.drewN wc _ = wc; have n0_ := Aside0.mk (Kd.R_at hq_ HO_6.out); have n1_ := Aside0.mk (Kd.R_at hq_ HO_7.out); have n2_ := Aside0.mk (blk_at hq_ BK290.out); have n3_ := Aside0.mk (blk_at hq_ BK305.out); have n4_ := Aside0.mk (below_at hq_ HB.out); clear hq_ HO_6 HO_7 BK290 BK305 HB; have HO_6 := n0_; have HO_7 := n1_; have BK290 := n2_; have BK305 := n3_; have HB := n4_; clear n0_ n1_ n2_ n3_ n4_; (try (obtain ⟨hy48_, hz48_⟩ := Kd.R_celln 0 HO_6.out (x13_28 : Int) (of_decide_eq_true (by first | (with_reducible assumption) | assumption)) (of_decide_eq_true (by first | (with_reducible assumption) | assumption)))); (try (have HP48 := Kd.R_putg HO_6.out (x13_28 : Int) (wrap64 ((rd x6_4 x14_28) + ((rd_T54 l0_1 x10_3).f2))))))); refine store_event (t := 3) (p := 115) (v := ?vo_w49) (w1 := (wc.setCell ⟨go16, (x13_28 : Int).toNat, none⟩ (.int .i64 (wrap64 ((rd x6_4 x14_28) + ((rd_T54 l0_1 x10_3).f2)))))) ?hg ?ho ?hn ?hr ?_; (case ho => rfl); (case hg => rfl); (case hn => rfl); (case hr => first | (go_simp; done) | (go_simp; rfl)); intro w49 hw; have hg : wc.grownBy w49 (some go16) := (by rw [hw]; exact HP48.2); have hp_ : Kd.R (Kd.int .i64) 3 w49 w.heap.size (fun k_ => some k_ ≠ (.slice (some ad308) x7_4.length co47 : Value).ownBlock) (.slice (some ⟨go16, 0, none⟩) x6_4.length co16) y310 := (by rw [hw, Ny310.out]; exact HP48.1); clear HP48; have n0_ := Aside0.mk (hp_); have n1_ := Aside0.mk (Kd.R_after (v := (.slice (some ⟨go16, 0, none⟩) x6_4.length co16)) (v1 := (.slice (some ⟨go16, 0, none⟩) x6_4.length co16)) (ok := (fun _ => True)) (Kd.R_mono HO_7.out (fun _ hk => ⟨trivial, hk⟩)) hg (.inl rfl)); have n2_ := Aside0.mk (blk_grown (g := gb290) (o := .cells #[.int .i64 a0_0, .slice (some ad304) l0_1.length c0_1] 26 (0, 0)) BK290.out hg (Kd.R_ne HO_6.out BK290.out (by decide))); have n3_ := Aside0.mk (blk_grown (g := gb305) (o := .cells #[.int .i64 ((rd_T54 l0_1 x10_3).f0), .int .i64 ((rd_T54 l0_1 x10_3).f1), .int .i64 ((rd_T54 l0_1 x10_3).f2), .int .i64 ((rd_T54 l0_1 x10_3).f3)] 54 (0, 0)) BK305.out hg (Kd.R_ne HO_6.out BK305.out (by decide))); have n4_ := Aside0.mk ((by rw [hw]; exact below_set (HB.out) GB16.out : Below w.heap.size w w49)); clear HO_6; clear HO_7; clear BK290; clear BK305; clear HB; have HO_6 := n0_; have HO_7 := n1_; have BK290 := n2_; have BK305 := n3_; have HB := n4_; clear n0_ n1_ n2_ n3_ n4_; clear hg hw hp_; have p44 : 0 ≤ (x13_28 : Int) := of_decide_eq_true (by first | (with_reducible assumption) | assumption); have q44 : (x13_28 : Int) < ((x7_4.length : Int) : Int) := of_decide_eq_true (by first | (with_reducible assumption) | assumption); obtain ⟨go44, co44, eo44, gb44, gl44, cl44, HG44⟩ := Kd.R_form HO_7.out (by omega); (first | cases eo44 | (injection eo44 with ea_ en_ ec_; (first | subst ea_ | (injection ea_ with ea_; subst ea_)); subst ec_; clear en_)); have GB44 := Aside0.mk gb44; have GG44 := Aside0.mk HG44; clear gb44 gl44 HG44; (first | simp only [add_plain] at hx308_0 | skip); obtain ⟨hx44_0, hf44_0⟩ := Kd.R_celln 0 HO_7.out (x13_28 : Int) p44 q44; replace p44 := eq_true p44; replace q44 := eq_true q44; have n_ := Aside0.mk (Kd.R_mono (ok' := (fun k_ => some k_ ≠ (.slice (some ⟨go16, 0, none⟩) x6_4.length co16 : Value).ownBlock)) HO_7.out (fun k_ hk => hk.2)); clear HO_7; have HO_7 := n_; clear n_; obtain ⟨hy50_, hz50_⟩ := Kd.R_celln 0 HO_7.out (x13_28 : Int) (of_decide_eq_true (by first | (with_reducible assumption) | assumption)) (of_decide_eq_true (by first | (with_reducible assumption) | assumption)); have HP50 := Kd.R_putg HO_7.out (x13_28 : Int) (wrap64 ((rd x7_4 x14_28) + 1))) | ((with_reducible refine gate_store (t := 3) (p := 119) rfl ?_); (try (rw [drewN_self w49]; generalize hq_ : World.drewN w49 _ = w49; have n0_ := Aside0.mk (Kd.R_at hq_ HO_6.out); have n1_ := Aside0.mk (Kd.R_at hq_ HO_7.out); have n2_ := Aside0.mk (blk_at hq_ BK290.out); have n3_ := Aside0.mk (blk_at hq_ BK305.out); have n4_ := Aside0.mk (below_at hq_ HB.out); clear hq_ HO_6 HO_7 BK290 BK305 HB; have HO_6 := n0_; have HO_7 := n1_; have BK290 := n2_; have BK305 := n3_; have HB := n4_; clear n0_ n1_ n2_ n3_ n4_; (try (have n_ := Aside0.mk (Kd.R_mono (ok' := (fun k_ => some k_ ≠ (.slice (some ⟨go16, 0, none⟩) x6_4.length co16 : Value).ownBlock)) HO_7.out (fun k_ hk => hk.2)); clear HO_7; have HO_7 := n_; clear n_)); (try (obtain ⟨hy50_, hz50_⟩ := Kd.R_celln 0 HO_7.out (x13_28 : Int) (of_decide_eq_true (by first | (with_reducible assumption) | assumption)) (of_decide_eq_true (by first | (with_reducible assumption) | assumption)))); (try (have HP50 := Kd.R_putg HO_7.out (x13_28 : Int) (wrap64 ((rd x7_4 x14_28) + 1)))))); refine store_event (t := 3) (p := 119) (v := ?vo_w51) (w1 := (w49.setCell ⟨go44, (x13_28 : Int).toNat, none⟩ (.int .i64 (wrap64 ((rd x7_4 x14_28) + 1))))) ?hg ?ho ?hn ?hr ?_; (case ho => rfl); (case hg => rfl); (case hn => rfl); (case hr => first | (go_simp; done) | (go_simp; rfl)); intro w51 hw; have hg : w49.grownBy w51 (some go44) := (by rw [hw]; exact HP50.2); have hp_ : Kd.R (Kd.int .i64) 3 w51 w.heap.size (fun k_ => some k_ ≠ (.slice (some ⟨go16, 0, none⟩) x6_4.length co16 : Value).ownBlock) (.slice (some ⟨go44, 0, none⟩) x7_4.length co47) y311 := (by rw [hw, Ny311.out]; exact HP50.1); clear HP50; have n0_ := Aside0.mk (Kd.R_after (v := (.slice (some ⟨go44, 0, none⟩) x7_4.length co47)) (v1 := (.slice (some ⟨go44, 0, none⟩) x7_4.length co47)) (ok := (fun _ => True)) (Kd.R_mono HO_6.out (fun _ hk => ⟨trivial, hk⟩)) hg (.inl rfl)); have n1_ := Aside0.mk (hp_); have n2_ := Aside0.mk (blk_grown (g := gb290) (o := .cells #[.int .i64 a0_0, .slice (some ad304) l0_1.length c0_1] 26 (0, 0)) BK290.out hg (Kd.R_ne HO_7.out BK290.out (by decide))); have n3_ := Aside0.mk (blk_grown (g := gb305) (o := .cells #[.int .i64 ((rd_T54 l0_1 x10_3).f0), .int .i64 ((rd_T54 l0_1 x10_3).f1), .int .i64 ((rd_T54 l0_1 x10_3).f2), .int .i64 ((rd_T54 l0_1 x10_3).f3)] 54 (0, 0)) BK305.out hg (Kd.R_ne HO_7.out BK305.out (by decide))); have n4_ := Aside0.mk ((by rw [hw]; exact below_set (HB.out) GB44.out : Below w.heap.size w w51)); clear HO_6; clear HO_7; clear BK290; clear BK305; clear HB; have HO_6 := n0_; have HO_7 := n1_; have BK290 := n2_; have BK305 := n3_; have HB := n4_; clear n0_ n1_ n2_ n3_ n4_; clear hg hw hp_)))
             (try simp only [← hl6_4])
             go_roundg kj28
             case measure => have := HK1.out; have := HK2.out; have := HK3.out; have := HK4.out; have := HJ28.out; omega
             case rel => exact ⟨(y310), (y311), (wrap64 (x12_4 + 1)), (by first | rfl | (simp; done) | (simp [*]; done)), H', ⟨by have := HK1.out; have := HK2.out; have := HK3.out; have := HK4.out; have := HJ28.out; omega⟩, ⟨by (try simp only [hl6_2]); (try simp only [hl6_3]); (try simp only [hl6_4]); (with_reducible repeat (first | apply Kd.R_alloc | apply Kd.R_drewN | apply Kd.R_drew)); exact Kd.R_mono HO_6.out (fun _ hk => hk.2)⟩, ⟨by (try simp only [hl6_2]); (try simp only [hl6_3]); (try simp only [hl6_4]); (with_reducible repeat (first | apply Kd.R_alloc | apply Kd.R_drewN | apply Kd.R_drew)); exact HO_7.out⟩, ⟨by (try simp only [hl6_2]); (try simp only [hl6_3]); (try simp only [hl6_4]); (with_reducible repeat (first | refine blk_drewN ?_ _ | refine blk_drew ?_ | refine blk_alloc ?_ _)); exact BK290.out⟩, ⟨by (try simp only [hl6_2]); (try simp only [hl6_3]); (try simp only [hl6_4]); (with_reducible repeat (first | refine blk_drewN ?_ _ | refine blk_drew ?_ | refine blk_alloc ?_ _)); exact BK305.out⟩, ⟨by repeat (first | (with_reducible first | exact HB.out | apply below_alloc | apply pw_below_drewN | apply below_drew1 | refine below_set ?_ GE290.out | refine below_set ?_ GE305.out) | exact HB.out)⟩⟩
            rw [if_pos c37] at H
            have c37b0 : decide ((rd x6_4 x14_28) < 0) = true := decide_eq_true c37
            clear c37
            have H' := Aside0.mk H
            clear H
            have p306 : 0 ≤ (x14_28 : Int) := of_decide_eq_true (by first | (with_reducible assumption) | assumption)
            have q306 : x14_28 < (x6_4.length : Int) := of_decide_eq_true (by first | (with_reducible assumption) | assumption)
            obtain ⟨ad306, e306, hx306_0⟩ := Kd.at_int (Kd.R_reads' HO_6.out).2.2 x14_28 p306 q306
            obtain rfl : (⟨go16, 0, none⟩ : Addr) = ad306 := (by injection e306)
            (first | simp only [add_plain] at hx306_0 | simp only [add_at] at hx306_0 | simp only [Addr.add, Nat.zero_add] at hx306_0 | skip)
            replace p306 := eq_true p306
            replace q306 := eq_true q306
            go_wp2
            repeat (go_quiet (fail); try go_wp2)
            (try simp only [← hl6_4])
            go_roundg kj28
            case measure => have := HK1.out; have := HK2.out; have := HK3.out; have := HK4.out; have := HJ28.out; omega
            case rel => exact ⟨(x6_4), (x7_4), (wrap64 (x12_4 + 1)), (by first | rfl | (simp; done) | (simp [*]; done)), H', ⟨by have := HK1.out; have := HK2.out; have := HK3.out; have := HK4.out; have := HJ28.out; omega⟩, ⟨by (try simp only [hl6_2]); (try simp only [hl6_3]); (try simp only [hl6_4]); (with_reducible repeat (first | apply Kd.R_alloc | apply Kd.R_drewN | apply Kd.R_drew)); exact HO_6.out⟩, ⟨by (try simp only [hl6_2]); (try simp only [hl6_3]); (try simp only [hl6_4]); (with_reducible repeat (first | apply Kd.R_alloc | apply Kd.R_drewN | apply Kd.R_drew)); exact HO_7.out⟩, ⟨by (try simp only [hl6_2]); (try simp only [hl6_3]); (try simp only [hl6_4]); (with_reducible repeat (first | refine blk_drewN ?_ _ | refine blk_drew ?_ | refine blk_alloc ?_ _)); exact BK290.out⟩, ⟨by (try simp only [hl6_2]); (try simp only [hl6_3]); (try simp only [hl6_4]); (with_reducible repeat (first | refine blk_drewN ?_ _ | refine blk_drew ?_ | refine blk_alloc ?_ _)); exact BK305.out⟩, ⟨by repeat (first | (with_reducible first | exact HB.out | apply below_alloc | apply pw_below_drewN | apply below_drew1 | refine below_set ?_ GE290.out | refine below_set ?_ GE305.out) | exact HB.out)⟩⟩
   rw [if_pos c8] at H
   have c8b0 : decide (x8_1 < a0_0) = true := decide_eq_true c8
   clear c8
   by_cases c9 : x6_1.length < 17592186044416
   rotate_left
   ·rw [if_neg c9] at H
    exact absurd H (by simp)
   rw [if_pos c9] at H
   have LMc9 := Aside0.mk c9
   clear c9
   obtain ⟨y297, hy297⟩ : ∃ y_ : List Int, y_ = (x6_1 ++ [(-1)]) := ⟨_, rfl⟩
   replace H : (if x7_1.length < 17592186044416 then (spec_l02Best.l0 k1 a1 y297 (x7_1 ++ [0]) (wrap64 (x8_1 + 1)) a0_0 l0_1) else (none)) = some (r1, r2) := by first | (rw [hy297]; with_reducible exact H) | (have H2_ := (Option.bind_some _ _).symm.trans H; rw [hy297]; with_reducible exact H2_) | (have H2_ := (Option.bind_some _ _).symm.trans H; with_reducible exact H2_) | with_reducible exact H | (rw [hy297]; exact H) | exact H
   have Ny297 := Aside0.mk hy297
   clear hy297
   by_cases c10 : x7_1.length < 17592186044416
   rotate_left
   ·rw [if_neg c10] at H
    exact absurd H (by simp)
   rw [if_pos c10] at H
   have LMc10 := Aside0.mk c10
   clear c10
   obtain ⟨y300, hy300⟩ : ∃ y_ : List Int, y_ = (x7_1 ++ [0]) := ⟨_, rfl⟩
   replace H : (spec_l02Best.l0 k1 a1 y297 y300 (wrap64 (x8_1 + 1)) a0_0 l0_1) = some (r1, r2) := by first | (rw [hy300]; with_reducible exact H) | (have H2_ := (Option.bind_some _ _).symm.trans H; rw [hy300]; with_reducible exact H2_) | (have H2_ := (Option.bind_some _ _).symm.trans H; with_reducible exact H2_) | with_reducible exact H | (rw [hy300]; exact H) | exact H
   have Ny300 := Aside0.mk hy300
   clear hy300
   have H' := Aside0.mk H
   clear H
   have hcz11_0 : wr.cell? ⟨gb290, 0, none⟩ = some (.int .i64 a0_0) := (blk_cell BK290.out 0).trans rfl
   have hcz11_1 : wr.cell? ⟨gb290, 1, none⟩ = some (.slice A0_1 l0_1.length c0_1) := (blk_cell BK290.out 1).trans rfl
   have hfz11_0 := blk_frozen BK290.out 0
   have hfz11_1 := blk_frozen BK290.out 1
   go_wp2_with (first | ((with_reducible refine gate_builtin (b := .append) (xs := #[.tmp 25, .tmp 26]) rfl ?_); at_builtin; refine Kd.R_append (Kd.int .i64) (w0 := w) w.heap.size rfl (.tmp 25) (.tmp 26) 29 3 (.int .i64 0) 8 rfl Try.underlying29 info3 rfl (by decide) (by omega) u6 x6_1 (-1) [.int .i64 (-1)] (fun k_ => some k_ ≠ (u7 : Value).ownBlock) (fun _ => False) rfl rfl ?aP (fun _ hk => hk.elim) ?aF ?aO ?aB ?aS ?aL ?_; (case aP => exact rfl); (case aB => exact HB.out); (case aF => exact (fun k_ hk => Kd.fresh' (Kd.R_lt HO_7.out) k_ hk)); (case aO => exact HO_6.out); (case aS => exact (below_size HB.out)); (case aL => have := LMc9.out; omega); intro v298 w12 ho hb hg hat; rw [← Ny297.out] at ho; have n0_ := Aside0.mk (Kd.R_after (ok := (fun _ => True)) (Kd.R_mono HO_7.out (fun _ hk => ⟨trivial, hk⟩)) hg hat); have n1_ := Aside0.mk (blk_grown (g := gb290) (o := .cells #[.int .i64 a0_0, .slice A0_1 l0_1.length c0_1] 26 (0, 0)) BK290.out hg (Kd.R_ne HO_6.out BK290.out (by decide))); have n2_ := Aside0.mk (hb); have n3_ := Aside0.mk (ho); clear HO_7; clear BK290; clear HB; clear HO_6; have HO_7 := n0_; have BK290 := n1_; have HB := n2_; have HO299 := n3_; clear n0_ n1_ n2_ n3_; clear ho hb hg hat) | ((with_reducible refine gate_builtin (b := .append) (xs := #[.tmp 28, .tmp 29]) rfl ?_); at_builtin; refine Kd.R_append (Kd.int .i64) (w0 := w) w.heap.size rfl (.tmp 28) (.tmp 29) 29 3 (.int .i64 0) 8 rfl Try.underlying29 info3 rfl (by decide) (by omega) u7 x7_1 0 [.int .i64 0] (fun k_ => some k_ ≠ (v298 : Value).ownBlock) (fun _ => False) rfl rfl ?aP (fun _ hk => hk.elim) ?aF ?aO ?aB ?aS ?aL ?_; (case aP => exact rfl); (case aB => exact HB.out); (case aF => exact (fun k_ hk => Kd.fresh' (Kd.R_lt HO299.out) k_ hk)); (case aO => exact (Kd.R_mono HO_7.out (fun _ hk => hk.2))); (case aS => exact (below_size HB.out)); (case aL => have := LMc10.out; omega); intro v301 w13 ho hb hg hat; rw [← Ny300.out] at ho; have n0_ := Aside0.mk (blk_grown (g := gb290) (o := .cells #[.int .i64 a0_0, .slice A0_1 l0_1.length c0_1] 26 (0, 0)) BK290.out hg (Kd.R_ne HO_7.out BK290.out (by decide))); have n1_ := Aside0.mk (Kd.R_after (ok := (fun _ => True)) (Kd.R_mono HO299.out (fun _ hk => ⟨trivial, hk⟩)) hg hat); have n2_ := Aside0.mk (hb); have n3_ := Aside0.mk (ho); clear BK290; clear HO299; clear HB; clear HO_7; have BK290 := n0_; have HO299 := n1_; have HB := n2_; have HO302 := n3_; clear n0_ n1_ n2_ n3_; clear ho hb hg hat))
   repeat (go_quiet (fail); try go_wp2_with (fail))
   go_roundg k1
   case measure => have := HK1.out; omega
   case rel => exact ⟨(y297), (y300), (wrap64 (x8_1 + 1)), (by first | rfl | (simp; done) | (simp [*]; done)), H', ⟨by have := HK1.out; omega⟩, ⟨by (with_reducible repeat (first | apply Kd.R_alloc | apply Kd.R_drewN | apply Kd.R_drew)); exact Kd.R_mono HO299.out (fun _ hk => hk.2)⟩, ⟨by (with_reducible repeat (first | apply Kd.R_alloc | apply Kd.R_drewN | apply Kd.R_drew)); exact HO302.out⟩, ⟨by (with_reducible repeat (first | refine blk_drewN ?_ _ | refine blk_drew ?_ | refine blk_alloc ?_ _)); exact BK290.out⟩, ⟨by repeat (first | (with_reducible first | exact HB.out | apply below_alloc | apply pw_below_drewN | apply below_drew1 | refine below_set ?_ GE290.out) | exact HB.out)⟩⟩
end Go.Proofs.Ytdeleoghaabjlaa.PFnBridges
