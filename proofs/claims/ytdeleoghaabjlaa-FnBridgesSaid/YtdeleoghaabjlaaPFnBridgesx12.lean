-- Written by a program of this session (wip/tools/fltprint.py: the kit's printer, taught more).
import Derived.Test.YtdeleoghaabjlaaPFnBridgesx0
import Derived.Test.YtdeleoghaabjlaaPFnBridgesx1
import Derived.Test.YtdeleoghaabjlaaPFnBridgesx3
import Derived.Test.YtdeleoghaabjlaaPFnBridgesx5
import Derived.Test.YtdeleoghaabjlaaPFnBridgesx7
import Derived.Test.YtdeleoghaabjlaaPFnBridgesx10
import Derived.Test.YtdeleoghaabjlaaPFnBridgesx11
namespace Go.Proofs.Ytdeleoghaabjlaa.PFnBridges
open Go.RowKit Go.Proofs.YtdeleoghaabjlaaW.PrintWords Go.Proofs.YtdeleoghaabjlaaW.PrintLast Go.Proofs.YtdeleoghaabjlaaW.PrintMore
attribute [local go_sem] max2_int min2_int max_two min_two max_three min_three max_four min_four   -- for this text's walks alone
set_option linter.unusedVariables false
set_option linter.unusedSimpArgs false

/-! ### laws_FnBridges: function 12 -/
def laws_FnBridges.l0 : Nat → List Int → Int → Int → List (S54) → Option (Bool)
 | 0, _, _, _, _ => none
 | k + 1, x4, x5, x367000, x367001 => if x5 < (x367001.length : Int) then ((impl_Cut.f k x367000 x367001 x5).bind fun bt374 => ((impl_Parts.f k bt374.1 bt374.2).bind fun t379 => (if (bt374.2.length : Int) = (wrap64 ((x367001.length : Int) - 1)) then (if (t379.length : Int) = x367000 then (if 0 ≤ x5 then (if 0 ≤ ((rd_T54 x367001 x5).f0) then (if ((rd_T54 x367001 x5).f0) < (t379.length : Int) then (if 0 ≤ ((rd_T54 x367001 x5).f1) then (if ((rd_T54 x367001 x5).f1) < (t379.length : Int) then ((laws_within.f k x4 x5).bind fun t386 => (if (((rd t379 ((rd_T54 x367001 x5).f0)) != (rd t379 ((rd_T54 x367001 x5).f1))) != t386) = true then (some false) else ((impl_Shortest.f k x367000 x367001 ((rd_T54 x367001 x5).f0) ((rd_T54 x367001 x5).f1)).bind fun bt389 => (if (rd t379 ((rd_T54 x367001 x5).f0)) = (rd t379 ((rd_T54 x367001 x5).f1)) then (laws_FnBridges.l0 k x4 (wrap64 (x5 + 1)) x367000 x367001) else ((laws_within.f k bt389.1 x5).bind fun t393 => (if t393 = true then (laws_FnBridges.l0 k x4 (wrap64 (x5 + 1)) x367000 x367001) else (some false))))))) else (none)) else (none)) else (none)) else (none)) else (none)) else (some false)) else (some false)))) else (some true)
def laws_FnBridges.f (k : Nat) (l0 : List Int) : Option (Bool) := (laws_big.f l0).bind fun t361 => (if t361 = true then (some true) else ((spec_DrawRightNet.f k l0).bind fun bt362 => ((impl_Bridges.f k bt362.1 bt362.2).bind fun t367 => ((spec_Bridges.f k bt362.1 bt362.2).bind fun t370 => ((laws_sameInts.f k t367 t370).bind fun t373 => (if t373 = true then (laws_FnBridges.l0 k t367 0 bt362.1 bt362.2) else (some false)))))))
theorem laws_FnBridges.mono_l : ∀ k, (∀ y0 y1 y2 y3, LeO (laws_FnBridges.l0 k y0 y1 y2 y3) (laws_FnBridges.l0 (k + 1) y0 y1 y2 y3))
 | 0 => fun _ _ _ _ r h => by simp [laws_FnBridges.l0] at h
 | k + 1 => by
  have ih0 := laws_FnBridges.mono_l k
  ·intro y0 y1 y2 y3
   unfold laws_FnBridges.l0
   repeat' first
   | (with_reducible exact ih0 _ _ _ _)
   | (with_reducible exact impl_Bridges.mono _ _ _)
   | (with_reducible exact impl_Cut.mono _ _ _ _)
   | (with_reducible exact impl_Parts.mono _ _ _)
   | (with_reducible exact impl_Shortest.mono _ _ _ _ _)
   | (with_reducible exact laws_sameInts.mono _ _ _)
   | (with_reducible exact laws_within.mono _ _ _)
   | (with_reducible exact spec_Bridges.mono _ _ _)
   | (with_reducible exact spec_DrawRightNet.mono _ _)
   | (with_reducible exact LeO.refl _)
   | (with_reducible exact LeO.none _)
   | (with_reducible refine LeO.ite ?_ ?_)
   | (with_reducible refine LeO.bind ?_ (fun _ => ?_))
   | exact ih0 _ _ _ _
   | exact impl_Bridges.mono _ _ _
   | exact impl_Cut.mono _ _ _ _
   | exact impl_Parts.mono _ _ _
   | exact impl_Shortest.mono _ _ _ _ _
   | exact laws_sameInts.mono _ _ _
   | exact laws_within.mono _ _ _
   | exact spec_Bridges.mono _ _ _
   | exact spec_DrawRightNet.mono _ _
   | exact LeO.none _
   | refine LeO.ite ?_ ?_
   | refine LeO.bind ?_ (fun _ => ?_)
theorem laws_FnBridges.mono : ∀ a0 k, LeO (laws_FnBridges.f k a0) (laws_FnBridges.f (k + 1) a0) := by
 intro a0 k
 have ih0 := laws_FnBridges.mono_l k
 unfold laws_FnBridges.f
 repeat' first
   | (with_reducible exact ih0 _ _ _ _)
   | (with_reducible exact impl_Bridges.mono _ _ _)
   | (with_reducible exact impl_Cut.mono _ _ _ _)
   | (with_reducible exact impl_Parts.mono _ _ _)
   | (with_reducible exact impl_Shortest.mono _ _ _ _ _)
   | (with_reducible exact laws_sameInts.mono _ _ _)
   | (with_reducible exact laws_within.mono _ _ _)
   | (with_reducible exact spec_Bridges.mono _ _ _)
   | (with_reducible exact spec_DrawRightNet.mono _ _)
   | (with_reducible exact LeO.refl _)
   | (with_reducible exact LeO.none _)
   | (with_reducible refine LeO.ite ?_ ?_)
   | (with_reducible refine LeO.bind ?_ (fun _ => ?_))
   | exact ih0 _ _ _ _
   | exact impl_Bridges.mono _ _ _
   | exact impl_Cut.mono _ _ _ _
   | exact impl_Parts.mono _ _ _
   | exact impl_Shortest.mono _ _ _ _ _
   | exact laws_sameInts.mono _ _ _
   | exact laws_within.mono _ _ _
   | exact spec_Bridges.mono _ _ _
   | exact spec_DrawRightNet.mono _ _
   | exact LeO.none _
   | refine LeO.ite ?_ ?_
   | refine LeO.bind ?_ (fun _ => ?_)
def laws_FnBridges.T14 : Bool × List (List Nat × List Nat) := (true, [([], []), ([], []), ([1], [1]), ([], []), ([2, 3], [2, 3]), ([4], [4]), ([5], [5]), ([0, 6], [0, 6]), ([7], [7]), ([], []), ([], []), ([10], [10]), ([], []), ([11, 12], [11, 12]), ([13], [13]), ([14], [14]), ([9, 15], [9, 15]), ([16], [16]), ([8, 17], [8, 17]), ([18, 0, 1, 2, 3, 4, 5, 6, 7, 8, 9, 10, 11, 12, 13, 14, 15, 16, 17, 18], [18])])
def laws_FnBridges.B14 : List Nat := [0, 0, 2, 0, 14, 30, 62, 127, 255, 0, 0, 1024, 0, 7168, 15360, 31744, 65024, 130560, 262143, 524287]
theorem laws_FnBridges.tab14 : rtab .any (opsOf Try.f12 14) = laws_FnBridges.T14 := by kernel_rfl
theorem laws_FnBridges.bits14 : waitsOk laws_FnBridges.T14.2 laws_FnBridges.B14 = true := by kernel_rfl
def laws_FnBridges.T17 : Bool × List (List Nat × List Nat) := (true, [([], []), ([], []), ([1], [1]), ([], []), ([2, 3], [2, 3]), ([4], [4]), ([5], [5]), ([], []), ([7], [7]), ([], []), ([8, 9], [8, 9]), ([10], [10]), ([11], [11]), ([0, 6, 12], [0, 6, 12]), ([13], [13]), ([14], [14]), ([14], [14]), ([15, 13, 0, 1, 2, 3, 4, 5, 6, 7, 8, 9, 10, 11, 12, 13, 14, 15], [15]), ([16, 17, 0, 1, 2, 3, 4, 5, 6, 7, 8, 9, 10, 11, 12, 13, 14, 15, 16, 17], [16])])
def laws_FnBridges.B17 : List Nat := [0, 0, 2, 0, 14, 30, 62, 0, 128, 0, 896, 1920, 3968, 8191, 16383, 32767, 32767, 65535, 262143]
theorem laws_FnBridges.tab17 : rtab .any (opsOf Try.f12 17) = laws_FnBridges.T17 := by kernel_rfl
theorem laws_FnBridges.bits17 : waitsOk laws_FnBridges.T17.2 laws_FnBridges.B17 = true := by kernel_rfl
set_option maxHeartbeats 8000000 in
set_option maxRecDepth 100000 in
theorem laws_FnBridges.calls (k : Nat) (A0 : Option Addr) (c0 : Nat) (l0 : List Int) (w : World) (hr0 : Kd.C (Kd.int .u8) w A0 l0.length l0) (hc0 : l0.length ≤ c0) (h : laws_FnBridges.f k l0 = some true) :
  Calls Try.prog 12 #[.slice A0 l0.length c0] w fun e w' => e = .returned (.bool true) ∧ Below w.heap.size w w' := by
 have hu26 := Try.underlying26
 have HR0 := Aside0.mk hr0
 have HC0 := Aside0.mk hc0
 clear hr0 hc0
 have HB := Aside0.mk (Below.refl w.heap.size w)
 have H : ((laws_big.f l0).bind fun t361 => (if t361 = true then (some true) else ((spec_DrawRightNet.f k l0).bind fun bt362 => ((impl_Bridges.f k bt362.1 bt362.2).bind fun t367 => ((spec_Bridges.f k bt362.1 bt362.2).bind fun t370 => ((laws_sameInts.f k t367 t370).bind fun t373 => (if t373 = true then (laws_FnBridges.l0 k t367 0 bt362.1 bt362.2) else (some false)))))))) = some true := h
 clear h
 replace H := Option.bind_eq_some_iff.mp H
 obtain ⟨t361, A20, H⟩ := H
 replace H : (if t361 = true then (some true) else ((spec_DrawRightNet.f k l0).bind fun bt362 => ((impl_Bridges.f k bt362.1 bt362.2).bind fun t367 => ((spec_Bridges.f k bt362.1 bt362.2).bind fun t370 => ((laws_sameInts.f k t367 t370).bind fun t373 => (if t373 = true then (laws_FnBridges.l0 k t367 0 bt362.1 bt362.2) else (some false))))))) = some true := H
 have A2 := Aside0.mk A20
 clear A20
 by_cases c3 : t361 = true
 rotate_left
 ·replace c3 := Bool.eq_false_iff.mpr c3
  subst c3
  have H1 : ((spec_DrawRightNet.f k l0).bind fun bt362 => ((impl_Bridges.f k bt362.1 bt362.2).bind fun t367 => ((spec_Bridges.f k bt362.1 bt362.2).bind fun t370 => ((laws_sameInts.f k t367 t370).bind fun t373 => (if t373 = true then (laws_FnBridges.l0 k t367 0 bt362.1 bt362.2) else (some false)))))) = some true := by (first | (rw [if_neg (show ¬ (false = true) by decide)] at H; exact H) | rfl)
  clear H
  have H := H1
  clear H1
  replace H := Option.bind_eq_some_iff.mp H
  obtain ⟨⟨t362, t363⟩, A40, H⟩ := H
  replace H : ((impl_Bridges.f k t362 t363).bind fun t367 => ((spec_Bridges.f k t362 t363).bind fun t370 => ((laws_sameInts.f k t367 t370).bind fun t373 => (if t373 = true then (laws_FnBridges.l0 k t367 0 t362 t363) else (some false))))) = some true := H
  have A4 := Aside0.mk A40
  clear A40
  replace H := Option.bind_eq_some_iff.mp H
  obtain ⟨t367, A50, H⟩ := H
  replace H : ((spec_Bridges.f k t362 t363).bind fun t370 => ((laws_sameInts.f k t367 t370).bind fun t373 => (if t373 = true then (laws_FnBridges.l0 k t367 0 t362 t363) else (some false)))) = some true := H
  have A5 := Aside0.mk A50
  clear A50
  replace H := Option.bind_eq_some_iff.mp H
  obtain ⟨t370, A60, H⟩ := H
  replace H : ((laws_sameInts.f k t367 t370).bind fun t373 => (if t373 = true then (laws_FnBridges.l0 k t367 0 t362 t363) else (some false))) = some true := H
  have A6 := Aside0.mk A60
  clear A60
  replace H := Option.bind_eq_some_iff.mp H
  obtain ⟨t373, A70, H⟩ := H
  replace H : (if t373 = true then (laws_FnBridges.l0 k t367 0 t362 t363) else (some false)) = some true := H
  have A7 := Aside0.mk A70
  clear A70
  by_cases c8 : t373 = true
  rotate_left
  ·replace c8 := Bool.eq_false_iff.mpr c8
   subst c8
   have H1 : (some false) = some true := by (first | (rw [if_neg (show ¬ (false = true) by decide)] at H; exact H) | rfl)
   clear H
   have H := H1
   clear H1
   exact absurd (Option.some.inj H) (by decide)

  subst c8
  have H1 : (laws_FnBridges.l0 k t367 0 t362 t363) = some true := by (first | (rw [if_pos rfl] at H; exact H) | rfl)
  clear H
  have H := H1
  clear H1
  have H' := Aside0.mk H
  clear H
  go_enter Try.func12, Try.ntmps12
  go_wp2_with (first | ((with_reducible refine gate_callee (f := 14) rfl ?_); refine goesL_ (some 12) rfl rfl Try.func14 (by kernel_rfl) rfl #[.slice A0 l0.length c0] rfl (by (try simp only [List.map_toArray, List.map_cons, List.map_nil]); first | done | rfl | (simp only [List.length_drop, List.length_take]; rfl)) ?_; (with_reducible refine (laws_big.calls _ _ l0 false _ ?side1 ?side2 A2.out).mono ?_); (case side1 => repeat (first | exact HR0.out | (with_reducible refine Kd.C_alloc ?_ _) | (with_reducible refine Kd.C_drewN ?_ _) | (with_reducible refine Kd.C_drew ?_))); (case side2 => exact HC0.out); rintro e w' ⟨rfl, ⟨nd, rfl⟩⟩; refine ⟨_, rfl, ?_⟩) | ((with_reducible refine gate_callee (f := 15) rfl ?_); refine goesL_ (some 14) rfl rfl Try.func15 (by kernel_rfl) rfl #[.slice A0 l0.length c0] rfl (by (try simp only [List.map_toArray, List.map_cons, List.map_nil]); first | done | rfl | (simp only [List.length_drop, List.length_take]; rfl)) ?_; (with_reducible refine (spec_DrawRightNet.calls k _ _ l0 t362 t363 _ ?side1 ?side2 A4.out).mono ?_); (case side1 => repeat (first | exact HR0.out | (with_reducible refine Kd.C_alloc ?_ _) | (with_reducible refine Kd.C_drewN ?_ _) | (with_reducible refine Kd.C_drew ?_))); (case side2 => exact HC0.out); rintro e w9 ⟨v364, rfl, ho0, hb⟩; refine ⟨_, rfl, ?_⟩; have n0_ := Aside0.mk (Kd.R_lower ho0 (below_size (by repeat (first | (with_reducible first | exact HB.out | apply below_alloc | apply pw_below_drewN | apply below_drew1) | exact HB.out)))); have n1_ := Aside0.mk (below_step (by repeat (first | (with_reducible first | exact HB.out | apply below_alloc | apply pw_below_drewN | apply below_drew1) | exact HB.out)) hb); clear HB; have HO365 := n0_; have HB := n1_; clear n0_ n1_; (try clear hb); (try clear hb2); (try clear hk); (try clear hi); (try clear ho0)) | ((with_reducible refine gate_dst (N := 3) rfl ?_); (try (refine gate_guard (by rfl) ?_; dsimp only)); refine box_event ?hg (N := 3) ?hd (cs := #[.int .i64 0, .slice none 0 0]) (t := 26) ?hr ?_; (case hd => rfl); (case hg => rfl); (case hr => first | (go_simp; done) | (go_simp; rfl)); intro gb366 hg w10 hbox hb; have n0_ := Aside0.mk (Kd.R_below HO365.out hb); have n1_ := Aside0.mk (below_step HB.out hb); have n2_ := Aside0.mk (hbox); have n3_ := Aside0.mk ((by rw [hg]; exact (below_size HB.out) : w.heap.size ≤ gb366)); have n4_ := Aside0.mk ((by rw [hg]; exact (below_size HB.out) : w.heap.size ≤ gb366)); clear HO365; clear HB; have HO365 := n0_; have HB := n1_; have BK366 := n2_; have GW366 := n3_; have GE366 := n4_; clear n0_ n1_ n2_ n3_ n4_; clear hb hbox hg; have hcz11_0 : w10.cell? ⟨gb366, 0, none⟩ = some (.int .i64 0) := (blk_cell BK366.out 0).trans rfl; have hcz11_1 : w10.cell? ⟨gb366, 1, none⟩ = some (.slice none 0 0) := (blk_cell BK366.out 1).trans rfl; have hfz11_0 := blk_frozen BK366.out 0; have hfz11_1 := blk_frozen BK366.out 1; obtain ⟨Ao12, co12, eo12⟩ := Kd.R_slice HO365.out; subst eo12) | ((with_reducible refine gate_callee (f := 42) rfl ?_); refine goesL_ (some 16) rfl rfl Try.func42 (by kernel_rfl) rfl #[.agg #[.int .i64 t362, .slice Ao12 t363.length co12]] rfl (by (try simp only [List.map_toArray, List.map_cons, List.map_nil]); first | done | rfl | (simp only [List.length_drop, List.length_take]; rfl)) ?_; (with_reducible refine (impl_Bridges.calls k t362 _ _ t363 t367 _ ?side1 ?side2 A5.out).mono ?_); (case side1 => refine (Kd.R_reads' (e := 54) (base := w.heap.size) (ok := fun k_ => True) (n := t363.length) (c := co12) ?_).2.2; exact (Kd.R_mono (Kd.R_far (p := ⟨gb366, 1, none⟩) (Kd.R_far (p := ⟨gb366, 0, none⟩) (Kd.R_types HO365.out BK366.out (by decide)) (fun _ hk => hk.2) (.int .i64 t362)) (fun _ hk => hk.2) (.slice Ao12 t363.length co12)) (fun _ h_ => h_.1))); (case side2 => exact (Kd.R_reads' HO365.out).2.1); rintro e w13 ⟨v368, rfl, ho0, hb⟩; refine ⟨_, rfl, ?_⟩; have n0_ := Aside0.mk (Kd.R_below (Kd.R_mono (Kd.R_far (p := ⟨gb366, 1, none⟩) (Kd.R_far (p := ⟨gb366, 0, none⟩) (Kd.R_types HO365.out BK366.out (by decide)) (fun _ hk => hk.2) (.int .i64 t362)) (fun _ hk => hk.2) (.slice Ao12 t363.length co12)) (fun _ h_ => h_.1)) hb); have n1_ := Aside0.mk (Kd.R_lower ho0 (below_size (by repeat (first | (with_reducible first | exact HB.out | apply below_alloc | apply pw_below_drewN | apply below_drew1 | refine below_set ?_ GE366.out) | exact HB.out)))); have n2_ := Aside0.mk (blk_below (g := gb366) (o := .cells #[.int .i64 t362, .slice Ao12 t363.length co12] 26 (0, 0)) (by (with_reducible repeat (first | refine blk_drewN ?_ _ | refine blk_drew ?_ | refine blk_alloc ?_ _)); refine blk_put (cs := #[.int .i64 t362, .slice none 0 0]) ?_ 1 _ rfl; (with_reducible repeat (first | refine blk_drewN ?_ _ | refine blk_drew ?_ | refine blk_alloc ?_ _)); refine blk_put (cs := #[.int .i64 0, .slice none 0 0]) ?_ 0 _ rfl; (with_reducible repeat (first | refine blk_drewN ?_ _ | refine blk_drew ?_ | refine blk_alloc ?_ _)); exact BK366.out) hb); have n3_ := Aside0.mk (below_step (by repeat (first | (with_reducible first | exact HB.out | apply below_alloc | apply pw_below_drewN | apply below_drew1 | refine below_set ?_ GE366.out) | exact HB.out)) hb); clear HO365; clear BK366; clear HB; have HO365 := n0_; have HO369 := n1_; have BK366 := n2_; have HB := n3_; clear n0_ n1_ n2_ n3_; (try clear hb); (try clear hb2); (try clear hk); (try clear hi); (try clear ho0); have hcz14_0 : w13.cell? ⟨gb366, 0, none⟩ = some (.int .i64 t362) := (blk_cell BK366.out 0).trans rfl; have hcz14_1 : w13.cell? ⟨gb366, 1, none⟩ = some (.slice Ao12 t363.length co12) := (blk_cell BK366.out 1).trans rfl; have hfz14_0 := blk_frozen BK366.out 0; have hfz14_1 := blk_frozen BK366.out 1) | ((with_reducible refine gate_callee (f := 41) rfl ?_); refine goesL_ (some 19) rfl rfl Try.func41 (by kernel_rfl) rfl #[.agg #[.int .i64 t362, .slice Ao12 t363.length co12]] rfl (by (try simp only [List.map_toArray, List.map_cons, List.map_nil]); first | done | rfl | (simp only [List.length_drop, List.length_take]; rfl)) ?_; (with_reducible refine (spec_Bridges.calls k t362 _ _ t363 t370 _ ?side1 ?side2 A6.out).mono ?_); (case side1 => repeat (first | exact (Kd.R_reads' HO365.out).2.2 | (with_reducible refine Kd.C_alloc ?_ _) | (with_reducible refine Kd.C_drewN ?_ _) | (with_reducible refine Kd.C_drew ?_))); (case side2 => exact (Kd.R_reads' HO365.out).2.1); rintro e w15 ⟨v371, rfl, ho0, hb⟩; refine ⟨_, rfl, ?_⟩; have n0_ := Aside0.mk (Kd.R_below HO365.out hb); have n1_ := Aside0.mk (Kd.R_elder' HO369.out (Kd.R_base ho0) hb); have n2_ := Aside0.mk (Kd.R_lower (Kd.R_new' ho0 (Kd.R_lt HO369.out)) (below_size HB.out)); have n3_ := Aside0.mk (blk_below BK366.out hb); have n4_ := Aside0.mk (below_step HB.out hb); clear HO365; clear HO369; clear BK366; clear HB; have HO365 := n0_; have HO369 := n1_; have HO372 := n2_; have BK366 := n3_; have HB := n4_; clear n0_ n1_ n2_ n3_ n4_; (try clear hb); (try clear hb2); (try clear hk); (try clear hi); (try clear ho0); obtain ⟨Ao16, co16, eo16⟩ := Kd.R_slice HO369.out; subst eo16; obtain ⟨Ao17, co17, eo17⟩ := Kd.R_slice HO372.out; subst eo17) | ((with_reducible refine gate_callee (f := 43) rfl ?_); refine goesL_ (some 20) rfl rfl Try.func43 (by kernel_rfl) rfl #[.slice Ao16 t367.length co16, .slice Ao17 t370.length co17] rfl (by (try simp only [List.map_toArray, List.map_cons, List.map_nil]); first | done | rfl | (simp only [List.length_drop, List.length_take]; rfl)) ?_; (with_reducible refine (laws_sameInts.calls k _ _ t367 _ _ t370 true _ ?side1 ?side2 ?side3 ?side4 A7.out).mono ?_); (case side1 => repeat (first | exact (Kd.R_reads' HO369.out).2.2 | (with_reducible refine Kd.C_alloc ?_ _) | (with_reducible refine Kd.C_drewN ?_ _) | (with_reducible refine Kd.C_drew ?_))); (case side2 => exact (Kd.R_reads' HO369.out).2.1); (case side3 => repeat (first | exact (Kd.R_reads' HO372.out).2.2 | (with_reducible refine Kd.C_alloc ?_ _) | (with_reducible refine Kd.C_drewN ?_ _) | (with_reducible refine Kd.C_drew ?_))); (case side4 => exact (Kd.R_reads' HO372.out).2.1); rintro e w' ⟨rfl, ⟨nd, rfl⟩⟩; refine ⟨_, rfl, ?_⟩))
  go_loopg [5] k (fun kq v5 w' => ∃ (x5_1 : Int), v5 = .int .i64 x5_1 ∧ Aside0 (laws_FnBridges.l0 kq t367 x5_1 t362 t363 = some true) ∧ Aside0 (kq ≤ k) ∧ Aside0 (Kd.R (Kd.int .i64) 3 w' w.heap.size (fun _ => True) (.slice Ao16 t367.length co16) t367) ∧ Aside0 (Kd.R k54 54 w' w.heap.size (fun _ => True) (.slice Ao12 t363.length co12) t363) ∧ Aside0 (w'.heap[gb366]? = some (.cells #[.int .i64 t362, (.slice Ao12 t363.length co12)] 26 (0, 0))) ∧ Aside0 (Below w.heap.size w w'))
  case atStart => exact ⟨(0), (by first | rfl | (simp; done) | (simp [*]; done)), H', ⟨Nat.le_refl _⟩, ⟨by (with_reducible repeat (first | apply Kd.R_alloc | apply Kd.R_drewN | apply Kd.R_drew)); exact Kd.R_mono HO369.out (fun _ hk => trivial)⟩, ⟨by (with_reducible repeat (first | apply Kd.R_alloc | apply Kd.R_drewN | apply Kd.R_drew)); exact HO365.out⟩, ⟨by (with_reducible repeat (first | refine blk_drewN ?_ _ | refine blk_drew ?_ | refine blk_alloc ?_ _)); exact BK366.out⟩, ⟨by repeat (first | (with_reducible first | exact HB.out | apply below_alloc | apply pw_below_drewN | apply below_drew1 | refine below_set ?_ GE366.out) | exact HB.out)⟩⟩
  case round =>
   clear H'
   try clear c1
   try clear p2
   try clear c3
   try clear c4
   try clear c8
   try clear c12
   try clear c14
   try clear c15
   try clear hcz11_0
   try clear hcz11_1
   try clear hcz14_0
   try clear hcz14_1
   try clear hfz11_0
   try clear hfz11_1
   try clear hfz14_0
   try clear hfz14_1
   obtain ⟨x5_1, rfl, HA, HK1, HO_4, HO_367001, BK366, HB⟩ := hrel
   cases gk with
   | zero => exact absurd HA.out (by simp [laws_FnBridges.l0])
   | succ k1 =>
    have H := HA.out
    clear HA
    simp only [laws_FnBridges.l0] at H
    by_cases c18 : x5_1 < (t363.length : Int)
    rotate_left
    ·rw [if_neg c18] at H
     have c18b0 : decide (x5_1 < (t363.length : Int)) = false := decide_eq_false c18
     clear c18
     clear H
     have hcz61_0 : wr.cell? ⟨gb366, 0, none⟩ = some (.int .i64 t362) := (blk_cell BK366.out 0).trans rfl
     have hcz61_1 : wr.cell? ⟨gb366, 1, none⟩ = some (.slice Ao12 t363.length co12) := (blk_cell BK366.out 1).trans rfl
     have hfz61_0 := blk_frozen BK366.out 0
     have hfz61_1 := blk_frozen BK366.out 1
     go_wp2
     go_ret
     exact ⟨by first | rfl | (simp [errW_none, errW_some] <;> rfl) | (simp [*, errW_none, errW_some] <;> rfl), by repeat (first | (with_reducible first | exact HB.out | apply below_alloc | apply pw_below_drewN | apply below_drew1 | refine below_set ?_ GE366.out) | exact HB.out)⟩
    rw [if_pos c18] at H
    have c18b0 : decide (x5_1 < (t363.length : Int)) = true := decide_eq_true c18
    clear c18
    replace H := Option.bind_eq_some_iff.mp H
    obtain ⟨⟨t374, t375⟩, A190, H⟩ := H
    replace H : ((impl_Parts.f k1 t374 t375).bind fun t379 => (if (t375.length : Int) = (wrap64 ((t363.length : Int) - 1)) then (if (t379.length : Int) = t362 then (if 0 ≤ x5_1 then (if 0 ≤ ((rd_T54 t363 x5_1).f0) then (if ((rd_T54 t363 x5_1).f0) < (t379.length : Int) then (if 0 ≤ ((rd_T54 t363 x5_1).f1) then (if ((rd_T54 t363 x5_1).f1) < (t379.length : Int) then ((laws_within.f k1 t367 x5_1).bind fun t386 => (if (((rd t379 ((rd_T54 t363 x5_1).f0)) != (rd t379 ((rd_T54 t363 x5_1).f1))) != t386) = true then (some false) else ((impl_Shortest.f k1 t362 t363 ((rd_T54 t363 x5_1).f0) ((rd_T54 t363 x5_1).f1)).bind fun bt389 => (if (rd t379 ((rd_T54 t363 x5_1).f0)) = (rd t379 ((rd_T54 t363 x5_1).f1)) then (laws_FnBridges.l0 k1 t367 (wrap64 (x5_1 + 1)) t362 t363) else ((laws_within.f k1 bt389.1 x5_1).bind fun t393 => (if t393 = true then (laws_FnBridges.l0 k1 t367 (wrap64 (x5_1 + 1)) t362 t363) else (some false))))))) else (none)) else (none)) else (none)) else (none)) else (none)) else (some false)) else (some false))) = some true := H
    have A19 := Aside0.mk A190
    clear A190
    replace H := Option.bind_eq_some_iff.mp H
    obtain ⟨t379, A200, H⟩ := H
    replace H : (if (t375.length : Int) = (wrap64 ((t363.length : Int) - 1)) then (if (t379.length : Int) = t362 then (if 0 ≤ x5_1 then (if 0 ≤ ((rd_T54 t363 x5_1).f0) then (if ((rd_T54 t363 x5_1).f0) < (t379.length : Int) then (if 0 ≤ ((rd_T54 t363 x5_1).f1) then (if ((rd_T54 t363 x5_1).f1) < (t379.length : Int) then ((laws_within.f k1 t367 x5_1).bind fun t386 => (if (((rd t379 ((rd_T54 t363 x5_1).f0)) != (rd t379 ((rd_T54 t363 x5_1).f1))) != t386) = true then (some false) else ((impl_Shortest.f k1 t362 t363 ((rd_T54 t363 x5_1).f0) ((rd_T54 t363 x5_1).f1)).bind fun bt389 => (if (rd t379 ((rd_T54 t363 x5_1).f0)) = (rd t379 ((rd_T54 t363 x5_1).f1)) then (laws_FnBridges.l0 k1 t367 (wrap64 (x5_1 + 1)) t362 t363) else ((laws_within.f k1 bt389.1 x5_1).bind fun t393 => (if t393 = true then (laws_FnBridges.l0 k1 t367 (wrap64 (x5_1 + 1)) t362 t363) else (some false))))))) else (none)) else (none)) else (none)) else (none)) else (none)) else (some false)) else (some false)) = some true := H
    have A20 := Aside0.mk A200
    clear A200
    by_cases c21 : (t375.length : Int) = (wrap64 ((t363.length : Int) - 1))
    rotate_left
    ·rw [if_neg c21] at H
     have c21b0 : ((t375.length : Int) == (wrap64 ((t363.length : Int) - 1))) = false := beq_eq_false_iff_ne.mpr c21
     have c21b1 : ((t375.length : Int) != (wrap64 ((t363.length : Int) - 1))) = true := bne_iff_ne.mpr c21
     exact absurd (Option.some.inj H) (by decide)
    rw [if_pos c21] at H
    have c21b0 : ((t375.length : Int) == (wrap64 ((t363.length : Int) - 1))) = true := beq_iff_eq.mpr c21
    have c21b1 : ((t375.length : Int) != (wrap64 ((t363.length : Int) - 1))) = false := bne_eq_false_iff_eq.mpr c21
    clear c21
    by_cases c22 : (t379.length : Int) = t362
    rotate_left
    ·rw [if_neg c22] at H
     have c22b0 : ((t379.length : Int) == t362) = false := beq_eq_false_iff_ne.mpr c22
     have c22b1 : ((t379.length : Int) != t362) = true := bne_iff_ne.mpr c22
     exact absurd (Option.some.inj H) (by decide)
    rw [if_pos c22] at H
    have c22b0 : ((t379.length : Int) == t362) = true := beq_iff_eq.mpr c22
    have c22b1 : ((t379.length : Int) != t362) = false := bne_eq_false_iff_eq.mpr c22
    clear c22
    by_cases c23 : 0 ≤ x5_1
    rotate_left
    ·rw [if_neg c23] at H
     exact absurd H (by simp)
    rw [if_pos c23] at H
    have c23b0 : decide (0 ≤ x5_1) = true := decide_eq_true c23
    clear c23
    by_cases c24 : 0 ≤ ((rd_T54 t363 x5_1).f0)
    rotate_left
    ·rw [if_neg c24] at H
     exact absurd H (by simp)
    rw [if_pos c24] at H
    have c24b0 : decide (0 ≤ ((rd_T54 t363 x5_1).f0)) = true := decide_eq_true c24
    clear c24
    by_cases c25 : ((rd_T54 t363 x5_1).f0) < (t379.length : Int)
    rotate_left
    ·rw [if_neg c25] at H
     exact absurd H (by simp)
    rw [if_pos c25] at H
    have c25b0 : decide (((rd_T54 t363 x5_1).f0) < (t379.length : Int)) = true := decide_eq_true c25
    clear c25
    by_cases c26 : 0 ≤ ((rd_T54 t363 x5_1).f1)
    rotate_left
    ·rw [if_neg c26] at H
     exact absurd H (by simp)
    rw [if_pos c26] at H
    have c26b0 : decide (0 ≤ ((rd_T54 t363 x5_1).f1)) = true := decide_eq_true c26
    clear c26
    by_cases c27 : ((rd_T54 t363 x5_1).f1) < (t379.length : Int)
    rotate_left
    ·rw [if_neg c27] at H
     exact absurd H (by simp)
    rw [if_pos c27] at H
    have c27b0 : decide (((rd_T54 t363 x5_1).f1) < (t379.length : Int)) = true := decide_eq_true c27
    clear c27
    replace H := Option.bind_eq_some_iff.mp H
    obtain ⟨t386, A280, H⟩ := H
    replace H : (if (((rd t379 ((rd_T54 t363 x5_1).f0)) != (rd t379 ((rd_T54 t363 x5_1).f1))) != t386) = true then (some false) else ((impl_Shortest.f k1 t362 t363 ((rd_T54 t363 x5_1).f0) ((rd_T54 t363 x5_1).f1)).bind fun bt389 => (if (rd t379 ((rd_T54 t363 x5_1).f0)) = (rd t379 ((rd_T54 t363 x5_1).f1)) then (laws_FnBridges.l0 k1 t367 (wrap64 (x5_1 + 1)) t362 t363) else ((laws_within.f k1 bt389.1 x5_1).bind fun t393 => (if t393 = true then (laws_FnBridges.l0 k1 t367 (wrap64 (x5_1 + 1)) t362 t363) else (some false)))))) = some true := H
    have A28 := Aside0.mk A280
    clear A280
    by_cases c29 : (((rd t379 ((rd_T54 t363 x5_1).f0)) != (rd t379 ((rd_T54 t363 x5_1).f1))) != t386) = true
    ·rw [if_pos c29] at H
     have c29b0 : (((rd t379 ((rd_T54 t363 x5_1).f0)) != (rd t379 ((rd_T54 t363 x5_1).f1))) != t386) = true := c29
     (try (have c29b1 : decide (((rd t379 ((rd_T54 t363 x5_1).f0)) != (rd t379 ((rd_T54 t363 x5_1).f1))) = t386) = false := by simpa using c29))
     (try (have c29b2 : (((rd t379 ((rd_T54 t363 x5_1).f0)) != (rd t379 ((rd_T54 t363 x5_1).f1))) == t386) = false := by simpa using c29))
     (try (have c29b3 : ¬ (((rd t379 ((rd_T54 t363 x5_1).f0)) != (rd t379 ((rd_T54 t363 x5_1).f1))) = t386) := by simpa using c29))
     clear c29
     exact absurd (Option.some.inj H) (by decide)
    ·rw [if_neg c29] at H
     have c29b0 : (((rd t379 ((rd_T54 t363 x5_1).f0)) != (rd t379 ((rd_T54 t363 x5_1).f1))) != t386) = false := by simpa using c29
     (try (have c29b1 : decide (((rd t379 ((rd_T54 t363 x5_1).f0)) != (rd t379 ((rd_T54 t363 x5_1).f1))) = t386) = true := by simpa using c29))
     (try (have c29b2 : (((rd t379 ((rd_T54 t363 x5_1).f0)) != (rd t379 ((rd_T54 t363 x5_1).f1))) == t386) = true := by simpa using c29))
     clear c29
     replace H := Option.bind_eq_some_iff.mp H
     obtain ⟨⟨t389, t392⟩, A300, H⟩ := H
     replace H : (if (rd t379 ((rd_T54 t363 x5_1).f0)) = (rd t379 ((rd_T54 t363 x5_1).f1)) then (laws_FnBridges.l0 k1 t367 (wrap64 (x5_1 + 1)) t362 t363) else ((laws_within.f k1 t389 x5_1).bind fun t393 => (if t393 = true then (laws_FnBridges.l0 k1 t367 (wrap64 (x5_1 + 1)) t362 t363) else (some false)))) = some true := H
     have A30 := Aside0.mk A300
     clear A300
     by_cases c31 : (rd t379 ((rd_T54 t363 x5_1).f0)) = (rd t379 ((rd_T54 t363 x5_1).f1))
     rotate_left
     ·rw [if_neg c31] at H
      have c31b0 : ((rd t379 ((rd_T54 t363 x5_1).f0)) == (rd t379 ((rd_T54 t363 x5_1).f1))) = false := beq_eq_false_iff_ne.mpr c31
      have c31b1 : ((rd t379 ((rd_T54 t363 x5_1).f0)) != (rd t379 ((rd_T54 t363 x5_1).f1))) = true := bne_iff_ne.mpr c31
      have e_t386 : t386 = true := by have q_ := c29b0; rw [c31b1] at q_; simpa using q_
      replace H := Option.bind_eq_some_iff.mp H
      obtain ⟨t393, A450, H⟩ := H
      replace H : (if t393 = true then (laws_FnBridges.l0 k1 t367 (wrap64 (x5_1 + 1)) t362 t363) else (some false)) = some true := H
      have A45 := Aside0.mk A450
      clear A450
      by_cases c46 : t393 = true
      rotate_left
      ·replace c46 := Bool.eq_false_iff.mpr c46
       subst c46
       have H1 : (some false) = some true := by (first | (rw [if_neg (show ¬ (false = true) by decide)] at H; exact H) | rfl)
       clear H
       have H := H1
       clear H1
       exact absurd (Option.some.inj H) (by decide)
      subst c46
      have H1 : (laws_FnBridges.l0 k1 t367 (wrap64 (x5_1 + 1)) t362 t363) = some true := by (first | (rw [if_pos rfl] at H; exact H) | rfl)
      clear H
      have H := H1
      clear H1
      have H' := Aside0.mk H
      clear H
      have hcz47_0 : wr.cell? ⟨gb366, 0, none⟩ = some (.int .i64 t362) := (blk_cell BK366.out 0).trans rfl
      have hcz47_1 : wr.cell? ⟨gb366, 1, none⟩ = some (.slice Ao12 t363.length co12) := (blk_cell BK366.out 1).trans rfl
      have hfz47_0 := blk_frozen BK366.out 0
      have hfz47_1 := blk_frozen BK366.out 1
      try go_wp2_with (first | ((with_reducible refine gate_callee (f := 30) rfl ?_); refine goesL_ (some 31) rfl rfl Try.func30 (by kernel_rfl) rfl #[.agg #[.int .i64 t362, .slice Ao12 t363.length co12], .int .i64 x5_1] rfl (by (try simp only [List.map_toArray, List.map_cons, List.map_nil]); first | done | rfl | (simp only [List.length_drop, List.length_take]; rfl)) ?_; (with_reducible refine (impl_Cut.calls k1 t362 _ _ t363 x5_1 t374 t375 _ ?side1 ?side2 A19.out).mono ?_); (case side1 => repeat (first | exact (Kd.R_reads' HO_367001.out).2.2 | (with_reducible refine Kd.C_alloc ?_ _) | (with_reducible refine Kd.C_drewN ?_ _) | (with_reducible refine Kd.C_drew ?_))); (case side2 => exact (Kd.R_reads' HO_367001.out).2.1); rintro e w48 ⟨v376, rfl, ho0, hb⟩; refine ⟨_, rfl, ?_⟩; have n0_ := Aside0.mk (Kd.R_below HO_4.out hb); have n1_ := Aside0.mk (Kd.R_elder' HO_367001.out (Kd.R_base ho0) hb); have n2_ := Aside0.mk (Kd.R_lower (Kd.R_new' ho0 (Kd.R_lt HO_367001.out)) (below_size HB.out)); have n3_ := Aside0.mk (blk_below BK366.out hb); have n4_ := Aside0.mk (below_step HB.out hb); clear HO_4; clear HO_367001; clear BK366; clear HB; have HO_4 := n0_; have HO_367001 := n1_; have HO377 := n2_; have BK366 := n3_; have HB := n4_; clear n0_ n1_ n2_ n3_ n4_; (try clear hb); (try clear hb2); (try clear hk); (try clear hi); (try clear ho0)) | ((with_reducible refine gate_dst (N := 6) rfl ?_); (try (refine gate_guard (by rfl) ?_; dsimp only)); refine box_event ?hg (N := 6) ?hd (cs := #[.int .i64 0, .slice none 0 0]) (t := 26) ?hr ?_; (case hd => rfl); (case hg => rfl); (case hr => first | (go_simp; done) | (go_simp; rfl)); intro gb378 hg w49 hbox hb; have n0_ := Aside0.mk (Kd.R_below HO_4.out hb); have n1_ := Aside0.mk (Kd.R_below HO_367001.out hb); have n2_ := Aside0.mk (Kd.R_below HO377.out hb); have n3_ := Aside0.mk (blk_below BK366.out hb); have n4_ := Aside0.mk (below_step HB.out hb); have n5_ := Aside0.mk (hbox); have n6_ := Aside0.mk ((by rw [hg]; exact (below_size HB.out) : w.heap.size ≤ gb378)); have n7_ := Aside0.mk ((by rw [hg]; exact (below_size HB.out) : w.heap.size ≤ gb378)); have n8_ := Aside0.mk ((by rw [hg]; exact Nat.ne_of_lt (blk_lt BK366.out) : gb366 ≠ gb378)); have n9_ := Aside0.mk ((by rw [hg]; exact Nat.ne_of_gt (blk_lt BK366.out) : gb378 ≠ gb366)); clear HO_4; clear HO_367001; clear HO377; clear BK366; clear HB; have HO_4 := n0_; have HO_367001 := n1_; have HO377 := n2_; have BK366 := n3_; have HB := n4_; have BK378 := n5_; have GW378 := n6_; have GE378 := n7_; have NB366_378 := n8_; have NB378_366 := n9_; clear n0_ n1_ n2_ n3_ n4_ n5_ n6_ n7_ n8_ n9_; clear hb hbox hg; have hnb50 := NB378_366.out; have hnc50 := NB366_378.out; have hcz51_0 : w49.cell? ⟨gb378, 0, none⟩ = some (.int .i64 0) := (blk_cell BK378.out 0).trans rfl; have hcz51_1 : w49.cell? ⟨gb378, 1, none⟩ = some (.slice none 0 0) := (blk_cell BK378.out 1).trans rfl; have hfz51_0 := blk_frozen BK378.out 0; have hfz51_1 := blk_frozen BK378.out 1; obtain ⟨Ao52, co52, eo52⟩ := Kd.R_slice HO377.out; subst eo52) | ((with_reducible refine gate_callee (f := 28) rfl ?_); refine goesL_ (some 33) rfl rfl Try.func28 (by kernel_rfl) rfl #[.agg #[.int .i64 t374, .slice Ao52 t375.length co52]] rfl (by (try simp only [List.map_toArray, List.map_cons, List.map_nil]); first | done | rfl | (simp only [List.length_drop, List.length_take]; rfl)) ?_; (with_reducible refine (impl_Parts.calls k1 t374 _ _ t375 t379 _ ?side1 ?side2 A20.out).mono ?_); (case side1 => refine (Kd.R_reads' (e := 54) (base := w.heap.size) (ok := fun k_ => (True ∧ some k_ ≠ (.slice Ao12 t363.length co12 : Value).ownBlock)) (n := t375.length) (c := co52) ?_).2.2; exact (Kd.R_mono (Kd.R_far (p := ⟨gb378, 1, none⟩) (Kd.R_far (p := ⟨gb378, 0, none⟩) (Kd.R_types HO377.out BK378.out (by decide)) (fun _ hk => hk.2) (.int .i64 t374)) (fun _ hk => hk.2) (.slice Ao52 t375.length co52)) (fun _ h_ => h_.1))); (case side2 => exact (Kd.R_reads' HO377.out).2.1); rintro e w53 ⟨v380, rfl, ho0, hb⟩; refine ⟨_, rfl, ?_⟩; have n0_ := Aside0.mk (Kd.R_elder' (Kd.R_mono (Kd.R_far (p := ⟨gb378, 1, none⟩) (Kd.R_far (p := ⟨gb378, 0, none⟩) (Kd.R_types HO_4.out BK378.out (by decide)) (fun _ hk => hk.2) (.int .i64 t374)) (fun _ hk => hk.2) (.slice Ao52 t375.length co52)) (fun _ h_ => h_.1)) (Kd.R_base ho0) hb); have n1_ := Aside0.mk (Kd.R_below (Kd.R_mono (Kd.R_far (p := ⟨gb378, 1, none⟩) (Kd.R_far (p := ⟨gb378, 0, none⟩) (Kd.R_types HO_367001.out BK378.out (by decide)) (fun _ hk => hk.2) (.int .i64 t374)) (fun _ hk => hk.2) (.slice Ao52 t375.length co52)) (fun _ h_ => h_.1)) hb); have n2_ := Aside0.mk (Kd.R_below (Kd.R_mono (Kd.R_far (p := ⟨gb378, 1, none⟩) (Kd.R_far (p := ⟨gb378, 0, none⟩) (Kd.R_types HO377.out BK378.out (by decide)) (fun _ hk => hk.2) (.int .i64 t374)) (fun _ hk => hk.2) (.slice Ao52 t375.length co52)) (fun _ h_ => h_.1)) hb); have n3_ := Aside0.mk (Kd.R_lower (Kd.R_new' ho0 (Kd.R_lt (Kd.R_mono (Kd.R_far (p := ⟨gb378, 1, none⟩) (Kd.R_far (p := ⟨gb378, 0, none⟩) (Kd.R_types HO_4.out BK378.out (by decide)) (fun _ hk => hk.2) (.int .i64 t374)) (fun _ hk => hk.2) (.slice Ao52 t375.length co52)) (fun _ h_ => h_.1)))) (below_size (by repeat (first | (with_reducible first | exact HB.out | apply below_alloc | apply pw_below_drewN | apply below_drew1 | refine below_set ?_ GE366.out | refine below_set ?_ GE378.out) | exact HB.out)))); have n4_ := Aside0.mk (blk_below (g := gb366) (o := .cells #[.int .i64 t362, .slice Ao12 t363.length co12] 26 (0, 0)) (by (with_reducible repeat (first | refine blk_drewN ?_ _ | refine blk_drew ?_ | refine blk_alloc ?_ _)); refine blk_far ?_ NB366_378.out _; (with_reducible repeat (first | refine blk_drewN ?_ _ | refine blk_drew ?_ | refine blk_alloc ?_ _)); refine blk_far ?_ NB366_378.out _; (with_reducible repeat (first | refine blk_drewN ?_ _ | refine blk_drew ?_ | refine blk_alloc ?_ _)); exact BK366.out) hb); have n5_ := Aside0.mk (blk_below (g := gb378) (o := .cells #[.int .i64 t374, .slice Ao52 t375.length co52] 26 (0, 0)) (by (with_reducible repeat (first | refine blk_drewN ?_ _ | refine blk_drew ?_ | refine blk_alloc ?_ _)); refine blk_put (cs := #[.int .i64 t374, .slice none 0 0]) ?_ 1 _ rfl; (with_reducible repeat (first | refine blk_drewN ?_ _ | refine blk_drew ?_ | refine blk_alloc ?_ _)); refine blk_put (cs := #[.int .i64 0, .slice none 0 0]) ?_ 0 _ rfl; (with_reducible repeat (first | refine blk_drewN ?_ _ | refine blk_drew ?_ | refine blk_alloc ?_ _)); exact BK378.out) hb); have n6_ := Aside0.mk (below_step (by repeat (first | (with_reducible first | exact HB.out | apply below_alloc | apply pw_below_drewN | apply below_drew1 | refine below_set ?_ GE366.out | refine below_set ?_ GE378.out) | exact HB.out)) hb); clear HO_4; clear HO_367001; clear HO377; clear BK366; clear BK378; clear HB; have HO_4 := n0_; have HO_367001 := n1_; have HO377 := n2_; have HO381 := n3_; have BK366 := n4_; have BK378 := n5_; have HB := n6_; clear n0_ n1_ n2_ n3_ n4_ n5_ n6_; (try clear hb); (try clear hb2); (try clear hk); (try clear hi); (try clear ho0); have hcz54_0 : w53.cell? ⟨gb378, 0, none⟩ = some (.int .i64 t374) := (blk_cell BK378.out 0).trans rfl; have hcz54_1 : w53.cell? ⟨gb378, 1, none⟩ = some (.slice Ao52 t375.length co52) := (blk_cell BK378.out 1).trans rfl; have hfz54_0 := blk_frozen BK378.out 0; have hfz54_1 := blk_frozen BK378.out 1; have hcz55_0 : w53.cell? ⟨gb366, 0, none⟩ = some (.int .i64 t362) := (blk_cell BK366.out 0).trans rfl; have hcz55_1 : w53.cell? ⟨gb366, 1, none⟩ = some (.slice Ao12 t363.length co12) := (blk_cell BK366.out 1).trans rfl; have hfz55_0 := blk_frozen BK366.out 0; have hfz55_1 := blk_frozen BK366.out 1; obtain ⟨Ao56, co56, eo56⟩ := Kd.R_slice HO381.out; subst eo56))
      replace HO_4 := Aside0.mk (Kd.R_drew HO_4.out)
      replace HO_367001 := Aside0.mk (Kd.R_drew HO_367001.out)
      replace HO377 := Aside0.mk (Kd.R_drew HO377.out)
      replace HO381 := Aside0.mk (Kd.R_drew HO381.out)
      replace BK366 := Aside0.mk (blk_drew BK366.out)
      replace BK378 := Aside0.mk (blk_drew BK378.out)
      replace HB := Aside0.mk (below_drew1 HB.out)
      have p382 : 0 ≤ (x5_1 : Int) := of_decide_eq_true (by first | (with_reducible assumption) | assumption)
      have q382 : x5_1 < (t363.length : Int) := of_decide_eq_true (by first | (with_reducible assumption) | assumption)
      obtain ⟨ad382, e382, hx382_0, hx382_1, hx382_2, hx382_3⟩ := at_T54 (Kd.R_reads' HO_367001.out).2.2 x5_1 p382 q382
      cases e382
      replace p382 := eq_true p382
      replace q382 := eq_true q382
      have p383 : 0 ≤ (((rd_T54 t363 x5_1).f0) : Int) := of_decide_eq_true (by first | (with_reducible assumption) | assumption)
      have q383 : ((rd_T54 t363 x5_1).f0) < (t379.length : Int) := of_decide_eq_true (by first | (with_reducible assumption) | assumption)
      obtain ⟨ad383, e383, hx383_0⟩ := Kd.at_int (Kd.R_reads' HO381.out).2.2 ((rd_T54 t363 x5_1).f0) p383 q383
      cases e383
      replace p383 := eq_true p383
      replace q383 := eq_true q383
      have p384 : 0 ≤ (x5_1 : Int) := of_decide_eq_true (by first | (with_reducible assumption) | assumption)
      have q384 : x5_1 < (t363.length : Int) := of_decide_eq_true (by first | (with_reducible assumption) | assumption)
      obtain ⟨ad384, e384, hx384_0, hx384_1, hx384_2, hx384_3⟩ := at_T54 (Kd.R_reads' HO_367001.out).2.2 x5_1 p384 q384
      obtain rfl : ad382 = ad384 := (by injection e384)
      replace p384 := eq_true p384
      replace q384 := eq_true q384
      have p385 : 0 ≤ (((rd_T54 t363 x5_1).f1) : Int) := of_decide_eq_true (by first | (with_reducible assumption) | assumption)
      have q385 : ((rd_T54 t363 x5_1).f1) < (t379.length : Int) := of_decide_eq_true (by first | (with_reducible assumption) | assumption)
      obtain ⟨ad385, e385, hx385_0⟩ := Kd.at_int (Kd.R_reads' HO381.out).2.2 ((rd_T54 t363 x5_1).f1) p385 q385
      obtain rfl : ad383 = ad385 := (by injection e385)
      replace p385 := eq_true p385
      replace q385 := eq_true q385
      refine start_ (n := 20) (S := fun w' => w'.cell? ⟨gb366, 0, none⟩ = some (.int .i64 t362) ∧ w'.cell? ⟨gb366, 1, none⟩ = some (.slice (some ad382) t363.length co12) ∧ w'.cell? (ad382.add ((x5_1).toNat * 4)) = some (.int .i64 ((rd_T54 t363 x5_1).f0)) ∧ w'.cell? ⟨(ad382.add ((x5_1).toNat * 4)).block, (ad382.add ((x5_1).toNat * 4)).off + 1, none⟩ = some (.int .i64 ((rd_T54 t363 x5_1).f1)) ∧ w'.cell? ⟨(ad382.add ((x5_1).toNat * 4)).block, (ad382.add ((x5_1).toNat * 4)).off + 2, none⟩ = some (.int .i64 ((rd_T54 t363 x5_1).f2)) ∧ w'.cell? ⟨(ad382.add ((x5_1).toNat * 4)).block, (ad382.add ((x5_1).toNat * 4)).off + 3, none⟩ = some (.int .i64 ((rd_T54 t363 x5_1).f3)) ∧ w'.cell? (ad383.add (((rd_T54 t363 x5_1).f0)).toNat) = some (.int .i64 (rd t379 ((rd_T54 t363 x5_1).f0))) ∧ w'.cell? (ad382.add ((x5_1).toNat * 4)) = some (.int .i64 ((rd_T54 t363 x5_1).f0)) ∧ w'.cell? ⟨(ad382.add ((x5_1).toNat * 4)).block, (ad382.add ((x5_1).toNat * 4)).off + 1, none⟩ = some (.int .i64 ((rd_T54 t363 x5_1).f1)) ∧ w'.cell? ⟨(ad382.add ((x5_1).toNat * 4)).block, (ad382.add ((x5_1).toNat * 4)).off + 2, none⟩ = some (.int .i64 ((rd_T54 t363 x5_1).f2)) ∧ w'.cell? ⟨(ad382.add ((x5_1).toNat * 4)).block, (ad382.add ((x5_1).toNat * 4)).off + 3, none⟩ = some (.int .i64 ((rd_T54 t363 x5_1).f3)) ∧ w'.cell? (ad383.add (((rd_T54 t363 x5_1).f1)).toNat) = some (.int .i64 (rd t379 ((rd_T54 t363 x5_1).f1)))) (ds := []) #[false, false, false, false, false, false, false, false, false, false, false, false, false, false, false, false, false, false, false, false] (by kernel_rfl) rfl rfl ⟨(blk_cell BK366.out 0).trans rfl, (blk_cell BK366.out 1).trans rfl, hx382_0, hx382_1, hx382_2, hx382_3, hx383_0, hx384_0, hx384_1, hx384_2, hx384_3, hx385_0⟩ (fun hHeld => ?_); refine with_tabW laws_FnBridges.tab14 laws_FnBridges.bits14 (fun HT_ HW_ => ?_)
      generalize w53.drew = w57 at HO_4 HO_367001 HO377 HO381 BK366 BK378 HB hx382_0 hx382_1 hx382_2 hx382_3 hx383_0 hx384_0 hx384_1 hx384_2 hx384_3 hx385_0 hHeld ⊢
      refine pure_ (i := 0) (N := some 49) (v := ?_) (a' := ?_) #[true, false, false, false, false, false, false, false, false, false, false, false, false, false, false, false, false, false, false, false] rfl rfl (any_of HT_.out (by kernel_rfl)) (fun _ _ _ h => h) (Or.inl ⟨by rfl, ?_⟩) ?_ ?_
      rotate_left
      ·intro w'
       go_simp
       with_reducible rfl
      rotate_left
      ·simp only [Act.put, List.setIfInBounds_toArray, List.set_cons_zero, List.set_cons_succ, i64_w, i32_w]
       rfl
      refine pure_ (i := 1) (N := some 50) (v := ?_) (a' := ?_) #[true, true, false, false, false, false, false, false, false, false, false, false, false, false, false, false, false, false, false, false] rfl rfl (any_of HT_.out (by kernel_rfl)) (fun _ _ _ h => h) (Or.inl ⟨by rfl, ?_⟩) ?_ ?_
      rotate_left
      ·intro w'
       go_simp
       with_reducible rfl
      rotate_left
      ·simp only [Act.put, List.setIfInBounds_toArray, List.set_cons_zero, List.set_cons_succ, i64_w, i32_w]
       rfl
      refine pure_ (i := 3) (N := some 52) (v := ?_) (a' := ?_) #[true, true, false, true, false, false, false, false, false, false, false, false, false, false, false, false, false, false, false, false] rfl rfl (any_of HT_.out (by kernel_rfl)) (fun _ _ _ h => h) (Or.inl ⟨by rfl, ?_⟩) ?_ ?_
      rotate_left
      ·intro w'
       go_simp
       with_reducible rfl
      rotate_left
      ·simp only [Act.put, List.setIfInBounds_toArray, List.set_cons_zero, List.set_cons_succ, i64_w, i32_w]
       rfl
      refine pure_ (i := 9) (N := some 58) (v := ?_) (a' := ?_) #[true, true, false, true, false, false, false, false, false, true, false, false, false, false, false, false, false, false, false, false] rfl rfl (any_of HT_.out (by kernel_rfl)) (fun _ _ _ h => h) (Or.inl ⟨by rfl, ?_⟩) ?_ ?_
      rotate_left
      ·intro w'
       go_simp
       with_reducible rfl
      rotate_left
      ·simp only [Act.put, List.setIfInBounds_toArray, List.set_cons_zero, List.set_cons_succ, i64_w, i32_w]
       rfl
      refine pure_ (i := 10) (N := some 59) (v := ?_) (a' := ?_) #[true, true, false, true, false, false, false, false, false, true, true, false, false, false, false, false, false, false, false, false] rfl rfl (any_of HT_.out (by kernel_rfl)) (fun _ _ _ h => h) (Or.inl ⟨by rfl, ?_⟩) ?_ ?_
      rotate_left
      ·intro w'
       go_simp
       with_reducible rfl
      rotate_left
      ·simp only [Act.put, List.setIfInBounds_toArray, List.set_cons_zero, List.set_cons_succ, i64_w, i32_w]
       rfl
      refine pure_ (i := 12) (N := some 61) (v := ?_) (a' := ?_) #[true, true, false, true, false, false, false, false, false, true, true, false, true, false, false, false, false, false, false, false] rfl rfl (any_of HT_.out (by kernel_rfl)) (fun _ _ _ h => h) (Or.inl ⟨by rfl, ?_⟩) ?_ ?_
      rotate_left
      ·intro w'
       go_simp
       with_reducible rfl
      rotate_left
      ·simp only [Act.put, List.setIfInBounds_toArray, List.set_cons_zero, List.set_cons_succ, i64_w, i32_w]
       rfl
      refine take_ (i := 2) (N := some 51) (v := ?_) (a' := ?_) #[true, true, true, true, false, false, false, false, false, true, true, false, true, false, false, false, false, false, false, false] rfl rfl (take_ofW HT_.out HW_.out (by kernel_rfl)) (fun _ _ _ h => h) (Or.inl ⟨by rfl, ?_⟩) hHeld ?_ ?_
      rotate_left
      ·rintro w' ⟨s0, s1, s2, s3, s4, s5, s6, s7, s8, s9, s10, s11⟩
       go_simp
       with_reducible rfl
      rotate_left
      ·simp only [Act.put, List.setIfInBounds_toArray, List.set_cons_zero, List.set_cons_succ, i64_w, i32_w]
       rfl
      refine pure_ (i := 4) (N := some 53) (v := ?_) (a' := ?_) #[true, true, true, true, true, false, false, false, false, true, true, false, true, false, false, false, false, false, false, false] rfl rfl (any_of HT_.out (by kernel_rfl)) (fun _ _ _ h => h) (Or.inl ⟨by rfl, ?_⟩) ?_ ?_
      rotate_left
      ·intro w'
       go_simp
       with_reducible rfl
      rotate_left
      ·simp only [Act.put, List.setIfInBounds_toArray, List.set_cons_zero, List.set_cons_succ, i64_w, i32_w]
       rfl
      refine pure_ (i := 5) (N := some 54) (v := ?_) (a' := ?_) #[true, true, true, true, true, true, false, false, false, true, true, false, true, false, false, false, false, false, false, false] rfl rfl (any_of HT_.out (by kernel_rfl)) (fun _ _ _ h => h) (Or.inl ⟨by rfl, ?_⟩) ?_ ?_
      rotate_left
      ·intro w'
       go_simp
       with_reducible rfl
      rotate_left
      ·simp only [Act.put, List.setIfInBounds_toArray, List.set_cons_zero, List.set_cons_succ, i64_w, i32_w]
       rfl
      refine take_ (i := 6) (N := some 55) (v := ?_) (a' := ?_) #[true, true, true, true, true, true, true, false, false, true, true, false, true, false, false, false, false, false, false, false] rfl rfl (take_ofW HT_.out HW_.out (by kernel_rfl)) (fun _ _ _ h => h) (Or.inl ⟨by rfl, ?_⟩) hHeld ?_ ?_
      rotate_left
      ·rintro w' ⟨s0, s1, s2, s3, s4, s5, s6, s7, s8, s9, s10, s11⟩
       go_simp
       with_reducible rfl
      rotate_left
      ·simp only [Act.put, List.setIfInBounds_toArray, List.set_cons_zero, List.set_cons_succ, i64_w, i32_w]
       rfl
      refine pure_ (i := 7) (N := some 56) (v := ?_) (a' := ?_) #[true, true, true, true, true, true, true, true, false, true, true, false, true, false, false, false, false, false, false, false] rfl rfl (any_of HT_.out (by kernel_rfl)) (fun _ _ _ h => h) (Or.inl ⟨by rfl, ?_⟩) ?_ ?_
      rotate_left
      ·intro w'
       go_simp
       with_reducible rfl
      rotate_left
      ·simp only [Act.put, List.setIfInBounds_toArray, List.set_cons_zero, List.set_cons_succ, i64_w, i32_w]
       rfl
      refine take_ (i := 8) (N := some 57) (v := ?_) (a' := ?_) #[true, true, true, true, true, true, true, true, true, true, true, false, true, false, false, false, false, false, false, false] rfl rfl (take_ofW HT_.out HW_.out (by kernel_rfl)) (fun _ _ _ h => h) (Or.inl ⟨by rfl, ?_⟩) hHeld ?_ ?_
      rotate_left
      ·rintro w' ⟨s0, s1, s2, s3, s4, s5, s6, s7, s8, s9, s10, s11⟩
       go_simp
       with_reducible rfl
      rotate_left
      ·simp only [Act.put, List.setIfInBounds_toArray, List.set_cons_zero, List.set_cons_succ, i64_w, i32_w]
       rfl
      refine take_ (i := 11) (N := some 60) (v := ?_) (a' := ?_) #[true, true, true, true, true, true, true, true, true, true, true, true, true, false, false, false, false, false, false, false] rfl rfl (take_ofW HT_.out HW_.out (by kernel_rfl)) (fun _ _ _ h => h) (Or.inl ⟨by rfl, ?_⟩) hHeld ?_ ?_
      rotate_left
      ·rintro w' ⟨s0, s1, s2, s3, s4, s5, s6, s7, s8, s9, s10, s11⟩
       go_simp
       with_reducible rfl
      rotate_left
      ·simp only [Act.put, List.setIfInBounds_toArray, List.set_cons_zero, List.set_cons_succ, i64_w, i32_w]
       rfl
      refine pure_ (i := 13) (N := some 62) (v := ?_) (a' := ?_) #[true, true, true, true, true, true, true, true, true, true, true, true, true, true, false, false, false, false, false, false] rfl rfl (any_of HT_.out (by kernel_rfl)) (fun _ _ _ h => h) (Or.inl ⟨by rfl, ?_⟩) ?_ ?_
      rotate_left
      ·intro w'
       go_simp
       with_reducible rfl
      rotate_left
      ·simp only [Act.put, List.setIfInBounds_toArray, List.set_cons_zero, List.set_cons_succ, i64_w, i32_w]
       rfl
      refine pure_ (i := 14) (N := some 63) (v := ?_) (a' := ?_) #[true, true, true, true, true, true, true, true, true, true, true, true, true, true, true, false, false, false, false, false] rfl rfl (any_of HT_.out (by kernel_rfl)) (fun _ _ _ h => h) (Or.inl ⟨by rfl, ?_⟩) ?_ ?_
      rotate_left
      ·intro w'
       go_simp
       with_reducible rfl
      rotate_left
      ·simp only [Act.put, List.setIfInBounds_toArray, List.set_cons_zero, List.set_cons_succ, i64_w, i32_w]
       rfl
      refine take_ (i := 15) (N := some 64) (v := ?_) (a' := ?_) #[true, true, true, true, true, true, true, true, true, true, true, true, true, true, true, true, false, false, false, false] rfl rfl (take_ofW HT_.out HW_.out (by kernel_rfl)) (fun _ _ _ h => h) (Or.inl ⟨by rfl, ?_⟩) hHeld ?_ ?_
      rotate_left
      ·rintro w' ⟨s0, s1, s2, s3, s4, s5, s6, s7, s8, s9, s10, s11⟩
       go_simp
       with_reducible rfl
      rotate_left
      ·simp only [Act.put, List.setIfInBounds_toArray, List.set_cons_zero, List.set_cons_succ, i64_w, i32_w]
       rfl
      refine pure_ (i := 16) (N := some 65) (v := ?_) (a' := ?_) #[true, true, true, true, true, true, true, true, true, true, true, true, true, true, true, true, true, false, false, false] rfl rfl (any_of HT_.out (by kernel_rfl)) (fun _ _ _ h => h) (Or.inl ⟨by rfl, ?_⟩) ?_ ?_
      rotate_left
      ·intro w'
       go_simp
       with_reducible rfl
      rotate_left
      ·simp only [Act.put, List.setIfInBounds_toArray, List.set_cons_zero, List.set_cons_succ, i64_w, i32_w]
       rfl
      refine take_ (i := 17) (N := some 66) (v := ?_) (a' := ?_) #[true, true, true, true, true, true, true, true, true, true, true, true, true, true, true, true, true, true, false, false] rfl rfl (take_ofW HT_.out HW_.out (by kernel_rfl)) (fun _ _ _ h => h) (Or.inl ⟨by rfl, ?_⟩) hHeld ?_ ?_
      rotate_left
      ·rintro w' ⟨s0, s1, s2, s3, s4, s5, s6, s7, s8, s9, s10, s11⟩
       go_simp
       with_reducible rfl
      rotate_left
      ·simp only [Act.put, List.setIfInBounds_toArray, List.set_cons_zero, List.set_cons_succ, i64_w, i32_w]
       rfl
      refine pure_ (i := 18) (N := some 67) (v := ?_) (a' := ?_) #[true, true, true, true, true, true, true, true, true, true, true, true, true, true, true, true, true, true, true, false] rfl rfl (any_of HT_.out (by kernel_rfl)) (fun _ _ _ h => h) (Or.inl ⟨by rfl, ?_⟩) ?_ ?_
      rotate_left
      ·intro w'
       go_simp
       with_reducible rfl
      rotate_left
      ·simp only [Act.put, List.setIfInBounds_toArray, List.set_cons_zero, List.set_cons_succ, i64_w, i32_w]
       rfl
      refine pure_ (i := 19) (N := some 8) (v := ?_) (a' := ?_) #[true, true, true, true, true, true, true, true, true, true, true, true, true, true, true, true, true, true, true, true] rfl rfl (any_of HT_.out (by kernel_rfl)) (fun _ _ _ h => h) (Or.inl ⟨by rfl, ?_⟩) ?_ ?_
      rotate_left
      ·intro w'
       go_simp
       with_reducible rfl
      rotate_left
      ·simp only [Act.put, List.setIfInBounds_toArray, List.set_cons_zero, List.set_cons_succ, i64_w, i32_w]
       rfl
      refine done_ (done_of HT_.out (by kernel_rfl)) ?_
      try go_wp2_with (first | ((with_reducible refine gate_callee (f := 18) rfl ?_); refine goesL_ (some 71) rfl rfl Try.func18 (by kernel_rfl) rfl #[.slice Ao16 t367.length co16, .int .i64 x5_1] rfl (by (try simp only [List.map_toArray, List.map_cons, List.map_nil]); first | done | rfl | (simp only [List.length_drop, List.length_take]; rfl)) ?_; (with_reducible refine (laws_within.calls k1 _ _ t367 x5_1 true _ ?side1 ?side2 (A28.out.trans (congrArg some e_t386))).mono ?_); (case side1 => repeat (first | exact (Kd.R_reads' HO_4.out).2.2 | (with_reducible refine Kd.C_alloc ?_ _) | (with_reducible refine Kd.C_drewN ?_ _) | (with_reducible refine Kd.C_drew ?_))); (case side2 => exact (Kd.R_reads' HO_4.out).2.1); rintro e w' ⟨rfl, ⟨nd, rfl⟩⟩; refine ⟨_, rfl, ?_⟩))
      (first | (rw [drewN_self w57]; generalize hq_ : World.drewN w57 _ = w57; have n0_ : Aside0 (Kd.R k54 54 w57 w.heap.size (fun k_ => some k_ ≠ (.slice (some ad382) t363.length co12 : Value).ownBlock) (.slice Ao52 t375.length co52) t375) := ⟨by rw [← hq_]; exact (by (with_reducible repeat (first | apply Kd.R_alloc | apply Kd.R_drewN | apply Kd.R_drew)); exact Kd.R_mono HO377.out (fun _ hk => hk.2))⟩; have n1_ : Aside0 (Kd.R (Kd.int .i64) 3 w57 w.heap.size (fun k_ => some k_ ≠ (.slice Ao16 t367.length co16 : Value).ownBlock) (.slice (some ad383) t379.length co56) t379) := ⟨by rw [← hq_]; exact (by (with_reducible repeat (first | apply Kd.R_alloc | apply Kd.R_drewN | apply Kd.R_drew)); exact Kd.R_mono HO381.out (fun _ hk => hk.2))⟩; have n2_ : Aside0 (Kd.R k54 54 w57 w.heap.size (fun k_ => some k_ ≠ (.slice Ao52 t375.length co52 : Value).ownBlock) (.slice (some ad382) t363.length co12) t363) := ⟨by rw [← hq_]; exact (by (with_reducible repeat (first | apply Kd.R_alloc | apply Kd.R_drewN | apply Kd.R_drew)); exact Kd.R_mono HO_367001.out (fun _ hk => hk.2))⟩; have n3_ : Aside0 (Kd.R (Kd.int .i64) 3 w57 w.heap.size (fun k_ => some k_ ≠ (.slice (some ad383) t379.length co56 : Value).ownBlock) (.slice Ao16 t367.length co16) t367) := ⟨by rw [← hq_]; exact (by (with_reducible repeat (first | apply Kd.R_alloc | apply Kd.R_drewN | apply Kd.R_drew)); exact Kd.R_mono HO_4.out (fun _ hk => hk.2))⟩; have n4_ : Aside0 (w57.heap[gb366]? = some (.cells #[.int .i64 t362, .slice (some ad382) t363.length co12] 26 (0, 0))) := ⟨by rw [← hq_]; exact (by (with_reducible repeat (first | refine blk_drewN ?_ _ | refine blk_drew ?_ | refine blk_alloc ?_ _)); exact BK366.out)⟩; have n5_ : Aside0 (w57.heap[gb378]? = some (.cells #[.int .i64 t374, .slice Ao52 t375.length co52] 26 (0, 0))) := ⟨by rw [← hq_]; exact (by (with_reducible repeat (first | refine blk_drewN ?_ _ | refine blk_drew ?_ | refine blk_alloc ?_ _)); exact BK378.out)⟩; have n6_ : Aside0 (Below w.heap.size w w57) := ⟨by rw [← hq_]; exact (by repeat (first | (with_reducible first | exact HB.out | apply below_alloc | apply pw_below_drewN | apply below_drew1 | refine below_set ?_ GE366.out | refine below_set ?_ GE378.out) | exact HB.out))⟩; clear HO377 HO381 HO_367001 HO_4 BK366 BK378 HB hq_; have HO377 := n0_; have HO381 := n1_; have HO_367001 := n2_; have HO_4 := n3_; have BK366 := n4_; have BK378 := n5_; have HB := n6_; clear n0_ n1_ n2_ n3_ n4_ n5_ n6_) | (have n0_ : Aside0 (Kd.R k54 54 w57 w.heap.size (fun k_ => some k_ ≠ (.slice (some ad382) t363.length co12 : Value).ownBlock) (.slice Ao52 t375.length co52) t375) := ⟨(by (with_reducible repeat (first | apply Kd.R_alloc | apply Kd.R_drewN | apply Kd.R_drew)); exact Kd.R_mono HO377.out (fun _ hk => hk.2))⟩; have n1_ : Aside0 (Kd.R (Kd.int .i64) 3 w57 w.heap.size (fun k_ => some k_ ≠ (.slice Ao16 t367.length co16 : Value).ownBlock) (.slice (some ad383) t379.length co56) t379) := ⟨(by (with_reducible repeat (first | apply Kd.R_alloc | apply Kd.R_drewN | apply Kd.R_drew)); exact Kd.R_mono HO381.out (fun _ hk => hk.2))⟩; have n2_ : Aside0 (Kd.R k54 54 w57 w.heap.size (fun k_ => some k_ ≠ (.slice Ao52 t375.length co52 : Value).ownBlock) (.slice (some ad382) t363.length co12) t363) := ⟨(by (with_reducible repeat (first | apply Kd.R_alloc | apply Kd.R_drewN | apply Kd.R_drew)); exact Kd.R_mono HO_367001.out (fun _ hk => hk.2))⟩; have n3_ : Aside0 (Kd.R (Kd.int .i64) 3 w57 w.heap.size (fun k_ => some k_ ≠ (.slice (some ad383) t379.length co56 : Value).ownBlock) (.slice Ao16 t367.length co16) t367) := ⟨(by (with_reducible repeat (first | apply Kd.R_alloc | apply Kd.R_drewN | apply Kd.R_drew)); exact Kd.R_mono HO_4.out (fun _ hk => hk.2))⟩; have n4_ : Aside0 (w57.heap[gb366]? = some (.cells #[.int .i64 t362, .slice (some ad382) t363.length co12] 26 (0, 0))) := ⟨(by (with_reducible repeat (first | refine blk_drewN ?_ _ | refine blk_drew ?_ | refine blk_alloc ?_ _)); exact BK366.out)⟩; have n5_ : Aside0 (w57.heap[gb378]? = some (.cells #[.int .i64 t374, .slice Ao52 t375.length co52] 26 (0, 0))) := ⟨(by (with_reducible repeat (first | refine blk_drewN ?_ _ | refine blk_drew ?_ | refine blk_alloc ?_ _)); exact BK378.out)⟩; have n6_ : Aside0 (Below w.heap.size w w57) := ⟨(by repeat (first | (with_reducible first | exact HB.out | apply below_alloc | apply pw_below_drewN | apply below_drew1 | refine below_set ?_ GE366.out | refine below_set ?_ GE378.out) | exact HB.out))⟩; clear HO377 HO381 HO_367001 HO_4 BK366 BK378 HB; have HO377 := n0_; have HO381 := n1_; have HO_367001 := n2_; have HO_4 := n3_; have BK366 := n4_; have BK378 := n5_; have HB := n6_; clear n0_ n1_ n2_ n3_ n4_ n5_ n6_))
      replace HO_4 := Aside0.mk (Kd.R_drew HO_4.out)
      replace HO_367001 := Aside0.mk (Kd.R_drew HO_367001.out)
      replace HO377 := Aside0.mk (Kd.R_drew HO377.out)
      replace HO381 := Aside0.mk (Kd.R_drew HO381.out)
      replace BK366 := Aside0.mk (blk_drew BK366.out)
      replace BK378 := Aside0.mk (blk_drew BK378.out)
      replace HB := Aside0.mk (below_drew1 HB.out)
      have p387 : 0 ≤ (x5_1 : Int) := of_decide_eq_true (by first | (with_reducible assumption) | assumption)
      have q387 : x5_1 < (t363.length : Int) := of_decide_eq_true (by first | (with_reducible assumption) | assumption)
      obtain ⟨ad387, e387, hx387_0, hx387_1, hx387_2, hx387_3⟩ := at_T54 (Kd.R_reads' HO_367001.out).2.2 x5_1 p387 q387
      obtain rfl : ad382 = ad387 := (by injection e387)
      replace p387 := eq_true p387
      replace q387 := eq_true q387
      have p388 : 0 ≤ (x5_1 : Int) := of_decide_eq_true (by first | (with_reducible assumption) | assumption)
      have q388 : x5_1 < (t363.length : Int) := of_decide_eq_true (by first | (with_reducible assumption) | assumption)
      obtain ⟨ad388, e388, hx388_0, hx388_1, hx388_2, hx388_3⟩ := at_T54 (Kd.R_reads' HO_367001.out).2.2 x5_1 p388 q388
      obtain rfl : ad382 = ad388 := (by injection e388)
      replace p388 := eq_true p388
      replace q388 := eq_true q388
      refine start_ (n := 19) (S := fun w' => w'.cell? ⟨gb366, 0, none⟩ = some (.int .i64 t362) ∧ w'.cell? ⟨gb366, 1, none⟩ = some (.slice (some ad382) t363.length co12) ∧ w'.cell? (ad382.add ((x5_1).toNat * 4)) = some (.int .i64 ((rd_T54 t363 x5_1).f0)) ∧ w'.cell? ⟨(ad382.add ((x5_1).toNat * 4)).block, (ad382.add ((x5_1).toNat * 4)).off + 1, none⟩ = some (.int .i64 ((rd_T54 t363 x5_1).f1)) ∧ w'.cell? ⟨(ad382.add ((x5_1).toNat * 4)).block, (ad382.add ((x5_1).toNat * 4)).off + 2, none⟩ = some (.int .i64 ((rd_T54 t363 x5_1).f2)) ∧ w'.cell? ⟨(ad382.add ((x5_1).toNat * 4)).block, (ad382.add ((x5_1).toNat * 4)).off + 3, none⟩ = some (.int .i64 ((rd_T54 t363 x5_1).f3)) ∧ w'.cell? (ad382.add ((x5_1).toNat * 4)) = some (.int .i64 ((rd_T54 t363 x5_1).f0)) ∧ w'.cell? ⟨(ad382.add ((x5_1).toNat * 4)).block, (ad382.add ((x5_1).toNat * 4)).off + 1, none⟩ = some (.int .i64 ((rd_T54 t363 x5_1).f1)) ∧ w'.cell? ⟨(ad382.add ((x5_1).toNat * 4)).block, (ad382.add ((x5_1).toNat * 4)).off + 2, none⟩ = some (.int .i64 ((rd_T54 t363 x5_1).f2)) ∧ w'.cell? ⟨(ad382.add ((x5_1).toNat * 4)).block, (ad382.add ((x5_1).toNat * 4)).off + 3, none⟩ = some (.int .i64 ((rd_T54 t363 x5_1).f3))) (ds := []) #[false, false, false, false, false, false, false, false, false, false, false, false, false, false, false, false, false, false, false] (by kernel_rfl) rfl rfl ⟨(blk_cell BK366.out 0).trans rfl, (blk_cell BK366.out 1).trans rfl, hx387_0, hx387_1, hx387_2, hx387_3, hx388_0, hx388_1, hx388_2, hx388_3⟩ (fun hHeld => ?_); refine with_tabW laws_FnBridges.tab17 laws_FnBridges.bits17 (fun HT_ HW_ => ?_)
      generalize w57.drew = w58 at HO_4 HO_367001 HO377 HO381 BK366 BK378 HB hx387_0 hx387_1 hx387_2 hx387_3 hx388_0 hx388_1 hx388_2 hx388_3 hHeld ⊢
      refine pure_ (i := 1) (N := some 75) (v := ?_) (a' := ?_) #[false, true, false, false, false, false, false, false, false, false, false, false, false, false, false, false, false, false, false] rfl rfl (any_of HT_.out (by kernel_rfl)) (fun _ _ _ h => h) (Or.inl ⟨by rfl, ?_⟩) ?_ ?_
      rotate_left
      ·intro w'
       go_simp
       with_reducible rfl
      rotate_left
      ·simp only [Act.put, List.setIfInBounds_toArray, List.set_cons_zero, List.set_cons_succ, i64_w, i32_w]
       rfl
      refine pure_ (i := 3) (N := some 77) (v := ?_) (a' := ?_) #[false, true, false, true, false, false, false, false, false, false, false, false, false, false, false, false, false, false, false] rfl rfl (any_of HT_.out (by kernel_rfl)) (fun _ _ _ h => h) (Or.inl ⟨by rfl, ?_⟩) ?_ ?_
      rotate_left
      ·intro w'
       go_simp
       with_reducible rfl
      rotate_left
      ·simp only [Act.put, List.setIfInBounds_toArray, List.set_cons_zero, List.set_cons_succ, i64_w, i32_w]
       rfl
      refine pure_ (i := 7) (N := some 81) (v := ?_) (a' := ?_) #[false, true, false, true, false, false, false, true, false, false, false, false, false, false, false, false, false, false, false] rfl rfl (any_of HT_.out (by kernel_rfl)) (fun _ _ _ h => h) (Or.inl ⟨by rfl, ?_⟩) ?_ ?_
      rotate_left
      ·intro w'
       go_simp
       with_reducible rfl
      rotate_left
      ·simp only [Act.put, List.setIfInBounds_toArray, List.set_cons_zero, List.set_cons_succ, i64_w, i32_w]
       rfl
      refine pure_ (i := 9) (N := some 83) (v := ?_) (a' := ?_) #[false, true, false, true, false, false, false, true, false, true, false, false, false, false, false, false, false, false, false] rfl rfl (any_of HT_.out (by kernel_rfl)) (fun _ _ _ h => h) (Or.inl ⟨by rfl, ?_⟩) ?_ ?_
      rotate_left
      ·intro w'
       go_simp
       with_reducible rfl
      rotate_left
      ·simp only [Act.put, List.setIfInBounds_toArray, List.set_cons_zero, List.set_cons_succ, i64_w, i32_w]
       rfl
      refine take_ (i := 0) (N := some 74) (v := ?_) (a' := ?_) #[true, true, false, true, false, false, false, true, false, true, false, false, false, false, false, false, false, false, false] rfl rfl (take_ofW HT_.out HW_.out (by kernel_rfl)) (fun _ _ _ h => h) (Or.inl ⟨by rfl, ?_⟩) hHeld ?_ ?_
      rotate_left
      ·rintro w' ⟨s0, s1, s2, s3, s4, s5, s6, s7, s8, s9⟩
       go_simp
       with_reducible rfl
      rotate_left
      ·simp only [Act.put, List.setIfInBounds_toArray, List.set_cons_zero, List.set_cons_succ, i64_w, i32_w]
       rfl
      refine take_ (i := 2) (N := some 76) (v := ?_) (a' := ?_) #[true, true, true, true, false, false, false, true, false, true, false, false, false, false, false, false, false, false, false] rfl rfl (take_ofW HT_.out HW_.out (by kernel_rfl)) (fun _ _ _ h => h) (Or.inl ⟨by rfl, ?_⟩) hHeld ?_ ?_
      rotate_left
      ·rintro w' ⟨s0, s1, s2, s3, s4, s5, s6, s7, s8, s9⟩
       go_simp
       with_reducible rfl
      rotate_left
      ·simp only [Act.put, List.setIfInBounds_toArray, List.set_cons_zero, List.set_cons_succ, i64_w, i32_w]
       rfl
      refine pure_ (i := 4) (N := some 78) (v := ?_) (a' := ?_) #[true, true, true, true, true, false, false, true, false, true, false, false, false, false, false, false, false, false, false] rfl rfl (any_of HT_.out (by kernel_rfl)) (fun _ _ _ h => h) (Or.inl ⟨by rfl, ?_⟩) ?_ ?_
      rotate_left
      ·intro w'
       go_simp
       with_reducible rfl
      rotate_left
      ·simp only [Act.put, List.setIfInBounds_toArray, List.set_cons_zero, List.set_cons_succ, i64_w, i32_w]
       rfl
      refine pure_ (i := 5) (N := some 79) (v := ?_) (a' := ?_) #[true, true, true, true, true, true, false, true, false, true, false, false, false, false, false, false, false, false, false] rfl rfl (any_of HT_.out (by kernel_rfl)) (fun _ _ _ h => h) (Or.inl ⟨by rfl, ?_⟩) ?_ ?_
      rotate_left
      ·intro w'
       go_simp
       with_reducible rfl
      rotate_left
      ·simp only [Act.put, List.setIfInBounds_toArray, List.set_cons_zero, List.set_cons_succ, i64_w, i32_w]
       rfl
      refine take_ (i := 6) (N := some 80) (v := ?_) (a' := ?_) #[true, true, true, true, true, true, true, true, false, true, false, false, false, false, false, false, false, false, false] rfl rfl (take_ofW HT_.out HW_.out (by kernel_rfl)) (fun _ _ _ h => h) (Or.inl ⟨by rfl, ?_⟩) hHeld ?_ ?_
      rotate_left
      ·rintro w' ⟨s0, s1, s2, s3, s4, s5, s6, s7, s8, s9⟩
       go_simp
       with_reducible rfl
      rotate_left
      ·simp only [Act.put, List.setIfInBounds_toArray, List.set_cons_zero, List.set_cons_succ, i64_w, i32_w]
       rfl
      refine take_ (i := 8) (N := some 82) (v := ?_) (a' := ?_) #[true, true, true, true, true, true, true, true, true, true, false, false, false, false, false, false, false, false, false] rfl rfl (take_ofW HT_.out HW_.out (by kernel_rfl)) (fun _ _ _ h => h) (Or.inl ⟨by rfl, ?_⟩) hHeld ?_ ?_
      rotate_left
      ·rintro w' ⟨s0, s1, s2, s3, s4, s5, s6, s7, s8, s9⟩
       go_simp
       with_reducible rfl
      rotate_left
      ·simp only [Act.put, List.setIfInBounds_toArray, List.set_cons_zero, List.set_cons_succ, i64_w, i32_w]
       rfl
      refine pure_ (i := 10) (N := some 84) (v := ?_) (a' := ?_) #[true, true, true, true, true, true, true, true, true, true, true, false, false, false, false, false, false, false, false] rfl rfl (any_of HT_.out (by kernel_rfl)) (fun _ _ _ h => h) (Or.inl ⟨by rfl, ?_⟩) ?_ ?_
      rotate_left
      ·intro w'
       go_simp
       with_reducible rfl
      rotate_left
      ·simp only [Act.put, List.setIfInBounds_toArray, List.set_cons_zero, List.set_cons_succ, i64_w, i32_w]
       rfl
      refine pure_ (i := 11) (N := some 85) (v := ?_) (a' := ?_) #[true, true, true, true, true, true, true, true, true, true, true, true, false, false, false, false, false, false, false] rfl rfl (any_of HT_.out (by kernel_rfl)) (fun _ _ _ h => h) (Or.inl ⟨by rfl, ?_⟩) ?_ ?_
      rotate_left
      ·intro w'
       go_simp
       with_reducible rfl
      rotate_left
      ·simp only [Act.put, List.setIfInBounds_toArray, List.set_cons_zero, List.set_cons_succ, i64_w, i32_w]
       rfl
      refine take_ (i := 12) (N := some 86) (v := ?_) (a' := ?_) #[true, true, true, true, true, true, true, true, true, true, true, true, true, false, false, false, false, false, false] rfl rfl (take_ofW HT_.out HW_.out (by kernel_rfl)) (fun _ _ _ h => h) (Or.inl ⟨by rfl, ?_⟩) hHeld ?_ ?_
      rotate_left
      ·rintro w' ⟨s0, s1, s2, s3, s4, s5, s6, s7, s8, s9⟩
       go_simp
       with_reducible rfl
      rotate_left
      ·simp only [Act.put, List.setIfInBounds_toArray, List.set_cons_zero, List.set_cons_succ, i64_w, i32_w]
       rfl
      refine one_ (i := 13) (N := some 87) #[true, true, true, true, true, true, true, true, true, true, true, true, true, true, false, false, false, false, false] rfl rfl (one_of HT_.out (by kernel_rfl)) (by decide) (fun K hK => ?_)
      refine goes_ Try.func17 (by kernel_rfl) rfl #[.agg #[.int .i64 t362, .slice (some ad382) t363.length co12], .int .i64 ((rd_T54 t363 x5_1).f0), .int .i64 ((rd_T54 t363 x5_1).f1)] (by rfl) rfl rfl (by (try simp only [List.map_toArray, List.map_cons, List.map_nil]); first | done | rfl | (simp only [List.length_drop, List.length_take]; rfl)) ?_
      with_reducible refine (impl_Shortest.calls k1 t362 _ _ t363 ((rd_T54 t363 x5_1).f0) ((rd_T54 t363 x5_1).f1) t389 t392 _ ?side1 ?side2 A30.out).mono ?_
      (case side1 => repeat (first | exact (Kd.R_reads' HO_367001.out).2.2 | (with_reducible refine Kd.C_alloc ?_ _) | (with_reducible refine Kd.C_drewN ?_ _) | (with_reducible refine Kd.C_drew ?_)))
      (case side2 => exact (Kd.R_reads' HO_367001.out).2.1)
      rintro e w59 ⟨v390, rfl, ho0, hb⟩
      have HS2_ := (hb.cell (World.block_lt_of_cell? _ _ (hHeld.2.2.1))).trans (hHeld.2.2.1)
      have HS3_ := (hb.cell (World.block_lt_of_cell? _ _ (hHeld.2.2.2.1))).trans (hHeld.2.2.2.1)
      have HS4_ := (hb.cell (World.block_lt_of_cell? _ _ (hHeld.2.2.2.2.1))).trans (hHeld.2.2.2.2.1)
      have HS5_ := (hb.cell (World.block_lt_of_cell? _ _ (hHeld.2.2.2.2.2.1))).trans (hHeld.2.2.2.2.2.1)
      have HS6_ := (hb.cell (World.block_lt_of_cell? _ _ (hHeld.2.2.2.2.2.2.1))).trans (hHeld.2.2.2.2.2.2.1)
      have HS7_ := (hb.cell (World.block_lt_of_cell? _ _ (hHeld.2.2.2.2.2.2.2.1))).trans (hHeld.2.2.2.2.2.2.2.1)
      have HS8_ := (hb.cell (World.block_lt_of_cell? _ _ (hHeld.2.2.2.2.2.2.2.2.1))).trans (hHeld.2.2.2.2.2.2.2.2.1)
      have HS9_ := (hb.cell (World.block_lt_of_cell? _ _ (hHeld.2.2.2.2.2.2.2.2.2))).trans (hHeld.2.2.2.2.2.2.2.2.2)
      refine ⟨_, rfl, ?_⟩
      replace HO_367001 := Aside0.mk (Kd.R_below HO_367001.out hb)
      replace HO377 := Aside0.mk (Kd.R_below HO377.out hb)
      have HO391 := Aside0.mk (Kd.R_lower (Kd.R_new' (Kd.R_new' ho0 (Kd.R_lt HO_4.out)) (Kd.R_lt HO381.out)) (below_size HB.out))
      replace HO_4 := Aside0.mk (Kd.R_elder' HO_4.out (Kd.R_base ho0) hb)
      replace HO381 := Aside0.mk (Kd.R_elder' HO381.out (Kd.R_base ho0) hb)
      replace BK366 := Aside0.mk (blk_below BK366.out hb)
      replace BK378 := Aside0.mk (blk_below BK378.out hb)
      replace HB := Aside0.mk (below_step HB.out hb)
      (try clear hb)
      (try clear hb2)
      (try clear hk)
      (try clear hi)
      (try clear ho0)
      refine hK.out _ _ ⟨(blk_cell BK366.out 0).trans rfl, (blk_cell BK366.out 1).trans rfl, HS2_, HS3_, HS4_, HS5_, HS6_, HS7_, HS8_, HS9_⟩ (fun hHeld => ?_)
      clear hK K
      refine norm_ (a' := ?_) ?_ ?_
      rotate_left
      ·show Act.put _ (some 87) _ = _
       simp only [Act.put, List.setIfInBounds_toArray, List.set_cons_zero, List.set_cons_succ, i64_w, i32_w]
       rfl
      refine pure_ (i := 14) (N := some 73) (v := ?_) (a' := ?_) #[true, true, true, true, true, true, true, true, true, true, true, true, true, true, true, false, false, false, false] rfl rfl (any_of HT_.out (by kernel_rfl)) (fun _ _ _ h => h) (Or.inl ⟨by rfl, ?_⟩) ?_ ?_
      rotate_left
      ·intro w'
       go_simp
       with_reducible rfl
      rotate_left
      ·simp only [Act.put, List.setIfInBounds_toArray, List.set_cons_zero, List.set_cons_succ, i64_w, i32_w]
       rfl
      refine pure_ (i := 15) (N := some 88) (v := ?_) (a' := ?_) #[true, true, true, true, true, true, true, true, true, true, true, true, true, true, true, true, false, false, false] rfl rfl (any_of HT_.out (by kernel_rfl)) (fun _ _ _ h => h) (Or.inl ⟨by rfl, ?_⟩) ?_ ?_
      rotate_left
      ·intro w'
       go_simp
       with_reducible rfl
      rotate_left
      ·simp only [Act.put, List.setIfInBounds_toArray, List.set_cons_zero, List.set_cons_succ, i64_w, i32_w]
       rfl
      refine pure_ (i := 16) (N := some 89) (v := ?_) (a' := ?_) #[true, true, true, true, true, true, true, true, true, true, true, true, true, true, true, true, true, false, false] rfl rfl (any_of HT_.out (by kernel_rfl)) (fun _ _ _ h => h) (Or.inl ⟨by rfl, ?_⟩) ?_ ?_
      rotate_left
      ·intro w'
       go_simp
       with_reducible rfl
      rotate_left
      ·simp only [Act.put, List.setIfInBounds_toArray, List.set_cons_zero, List.set_cons_succ, i64_w, i32_w]
       rfl
      refine pure_ (i := 17) (N := some 9) (v := ?_) (a' := ?_) #[true, true, true, true, true, true, true, true, true, true, true, true, true, true, true, true, true, true, false] rfl rfl (any_of HT_.out (by kernel_rfl)) (fun _ _ _ h => h) (Or.inl ⟨by rfl, ?_⟩) ?_ ?_
      rotate_left
      ·intro w'
       go_simp
       with_reducible rfl
      rotate_left
      ·simp only [Act.put, List.setIfInBounds_toArray, List.set_cons_zero, List.set_cons_succ, i64_w, i32_w]
       rfl
      refine pure_ (i := 18) (N := some 10) (v := ?_) (a' := ?_) #[true, true, true, true, true, true, true, true, true, true, true, true, true, true, true, true, true, true, true] rfl rfl (any_of HT_.out (by kernel_rfl)) (fun _ _ _ h => h) (Or.inl ⟨by rfl, ?_⟩) ?_ ?_
      rotate_left
      ·intro w'
       go_simp
       with_reducible rfl
      rotate_left
      ·simp only [Act.put, List.setIfInBounds_toArray, List.set_cons_zero, List.set_cons_succ, i64_w, i32_w]
       rfl
      refine done_ (done_of HT_.out (by kernel_rfl)) ?_
      obtain ⟨Ao60, co60, eo60⟩ := Kd.R_slice HO391.out
      subst eo60
      try go_wp2_with (first | (go_at_call 18; (with_reducible refine (laws_within.calls k1 _ _ t389 x5_1 true _ ?side1 ?side2 A45.out).mono ?_); (case side1 => repeat (first | exact (Kd.R_reads' HO391.out).2.2 | (with_reducible refine Kd.C_alloc ?_ _) | (with_reducible refine Kd.C_drewN ?_ _) | (with_reducible refine Kd.C_drew ?_))); (case side2 => exact (Kd.R_reads' HO391.out).2.1); rintro e w' ⟨rfl, ⟨nd, rfl⟩⟩))
      go_roundg k1
      case measure => have := HK1.out; omega
      case rel => exact ⟨(wrap64 (x5_1 + 1)), (by first | rfl | (simp; done) | (simp [*]; done)), H', ⟨by have := HK1.out; omega⟩, ⟨by (with_reducible repeat (first | apply Kd.R_alloc | apply Kd.R_drewN | apply Kd.R_drew)); exact Kd.R_mono HO_4.out (fun _ hk => trivial)⟩, ⟨by (with_reducible repeat (first | apply Kd.R_alloc | apply Kd.R_drewN | apply Kd.R_drew)); exact Kd.R_mono HO_367001.out (fun _ hk => trivial)⟩, ⟨by (with_reducible repeat (first | refine blk_drewN ?_ _ | refine blk_drew ?_ | refine blk_alloc ?_ _)); exact BK366.out⟩, ⟨by repeat (first | (with_reducible first | exact HB.out | apply below_alloc | apply pw_below_drewN | apply below_drew1 | refine below_set ?_ GE366.out | refine below_set ?_ GE378.out) | exact HB.out)⟩⟩
     rw [if_pos c31] at H
     have c31b0 : ((rd t379 ((rd_T54 t363 x5_1).f0)) == (rd t379 ((rd_T54 t363 x5_1).f1))) = true := beq_iff_eq.mpr c31
     have c31b1 : ((rd t379 ((rd_T54 t363 x5_1).f0)) != (rd t379 ((rd_T54 t363 x5_1).f1))) = false := bne_eq_false_iff_eq.mpr c31
     have e_t386 : t386 = false := by have q_ := c29b0; rw [c31b1] at q_; simpa using q_
     clear c31
     have H' := Aside0.mk H
     clear H
     have hcz32_0 : wr.cell? ⟨gb366, 0, none⟩ = some (.int .i64 t362) := (blk_cell BK366.out 0).trans rfl
     have hcz32_1 : wr.cell? ⟨gb366, 1, none⟩ = some (.slice Ao12 t363.length co12) := (blk_cell BK366.out 1).trans rfl
     have hfz32_0 := blk_frozen BK366.out 0
     have hfz32_1 := blk_frozen BK366.out 1
     try go_wp2_with (first | ((with_reducible refine gate_callee (f := 30) rfl ?_); refine goesL_ (some 31) rfl rfl Try.func30 (by kernel_rfl) rfl #[.agg #[.int .i64 t362, .slice Ao12 t363.length co12], .int .i64 x5_1] rfl (by (try simp only [List.map_toArray, List.map_cons, List.map_nil]); first | done | rfl | (simp only [List.length_drop, List.length_take]; rfl)) ?_; (with_reducible refine (impl_Cut.calls k1 t362 _ _ t363 x5_1 t374 t375 _ ?side1 ?side2 A19.out).mono ?_); (case side1 => repeat (first | exact (Kd.R_reads' HO_367001.out).2.2 | (with_reducible refine Kd.C_alloc ?_ _) | (with_reducible refine Kd.C_drewN ?_ _) | (with_reducible refine Kd.C_drew ?_))); (case side2 => exact (Kd.R_reads' HO_367001.out).2.1); rintro e w33 ⟨v376, rfl, ho0, hb⟩; refine ⟨_, rfl, ?_⟩; have n0_ := Aside0.mk (Kd.R_below HO_4.out hb); have n1_ := Aside0.mk (Kd.R_elder' HO_367001.out (Kd.R_base ho0) hb); have n2_ := Aside0.mk (Kd.R_lower (Kd.R_new' ho0 (Kd.R_lt HO_367001.out)) (below_size HB.out)); have n3_ := Aside0.mk (blk_below BK366.out hb); have n4_ := Aside0.mk (below_step HB.out hb); clear HO_4; clear HO_367001; clear BK366; clear HB; have HO_4 := n0_; have HO_367001 := n1_; have HO377 := n2_; have BK366 := n3_; have HB := n4_; clear n0_ n1_ n2_ n3_ n4_; (try clear hb); (try clear hb2); (try clear hk); (try clear hi); (try clear ho0)) | ((with_reducible refine gate_dst (N := 6) rfl ?_); (try (refine gate_guard (by rfl) ?_; dsimp only)); refine box_event ?hg (N := 6) ?hd (cs := #[.int .i64 0, .slice none 0 0]) (t := 26) ?hr ?_; (case hd => rfl); (case hg => rfl); (case hr => first | (go_simp; done) | (go_simp; rfl)); intro gb378 hg w34 hbox hb; have n0_ := Aside0.mk (Kd.R_below HO_4.out hb); have n1_ := Aside0.mk (Kd.R_below HO_367001.out hb); have n2_ := Aside0.mk (Kd.R_below HO377.out hb); have n3_ := Aside0.mk (blk_below BK366.out hb); have n4_ := Aside0.mk (below_step HB.out hb); have n5_ := Aside0.mk (hbox); have n6_ := Aside0.mk ((by rw [hg]; exact (below_size HB.out) : w.heap.size ≤ gb378)); have n7_ := Aside0.mk ((by rw [hg]; exact (below_size HB.out) : w.heap.size ≤ gb378)); have n8_ := Aside0.mk ((by rw [hg]; exact Nat.ne_of_lt (blk_lt BK366.out) : gb366 ≠ gb378)); have n9_ := Aside0.mk ((by rw [hg]; exact Nat.ne_of_gt (blk_lt BK366.out) : gb378 ≠ gb366)); clear HO_4; clear HO_367001; clear HO377; clear BK366; clear HB; have HO_4 := n0_; have HO_367001 := n1_; have HO377 := n2_; have BK366 := n3_; have HB := n4_; have BK378 := n5_; have GW378 := n6_; have GE378 := n7_; have NB366_378 := n8_; have NB378_366 := n9_; clear n0_ n1_ n2_ n3_ n4_ n5_ n6_ n7_ n8_ n9_; clear hb hbox hg; have hnb35 := NB378_366.out; have hnc35 := NB366_378.out; have hcz36_0 : w34.cell? ⟨gb378, 0, none⟩ = some (.int .i64 0) := (blk_cell BK378.out 0).trans rfl; have hcz36_1 : w34.cell? ⟨gb378, 1, none⟩ = some (.slice none 0 0) := (blk_cell BK378.out 1).trans rfl; have hfz36_0 := blk_frozen BK378.out 0; have hfz36_1 := blk_frozen BK378.out 1; obtain ⟨Ao37, co37, eo37⟩ := Kd.R_slice HO377.out; subst eo37) | ((with_reducible refine gate_callee (f := 28) rfl ?_); refine goesL_ (some 33) rfl rfl Try.func28 (by kernel_rfl) rfl #[.agg #[.int .i64 t374, .slice Ao37 t375.length co37]] rfl (by (try simp only [List.map_toArray, List.map_cons, List.map_nil]); first | done | rfl | (simp only [List.length_drop, List.length_take]; rfl)) ?_; (with_reducible refine (impl_Parts.calls k1 t374 _ _ t375 t379 _ ?side1 ?side2 A20.out).mono ?_); (case side1 => refine (Kd.R_reads' (e := 54) (base := w.heap.size) (ok := fun k_ => (True ∧ some k_ ≠ (.slice Ao12 t363.length co12 : Value).ownBlock)) (n := t375.length) (c := co37) ?_).2.2; exact (Kd.R_mono (Kd.R_far (p := ⟨gb378, 1, none⟩) (Kd.R_far (p := ⟨gb378, 0, none⟩) (Kd.R_types HO377.out BK378.out (by decide)) (fun _ hk => hk.2) (.int .i64 t374)) (fun _ hk => hk.2) (.slice Ao37 t375.length co37)) (fun _ h_ => h_.1))); (case side2 => exact (Kd.R_reads' HO377.out).2.1); rintro e w38 ⟨v380, rfl, ho0, hb⟩; refine ⟨_, rfl, ?_⟩; have n0_ := Aside0.mk (Kd.R_elder' (Kd.R_mono (Kd.R_far (p := ⟨gb378, 1, none⟩) (Kd.R_far (p := ⟨gb378, 0, none⟩) (Kd.R_types HO_4.out BK378.out (by decide)) (fun _ hk => hk.2) (.int .i64 t374)) (fun _ hk => hk.2) (.slice Ao37 t375.length co37)) (fun _ h_ => h_.1)) (Kd.R_base ho0) hb); have n1_ := Aside0.mk (Kd.R_below (Kd.R_mono (Kd.R_far (p := ⟨gb378, 1, none⟩) (Kd.R_far (p := ⟨gb378, 0, none⟩) (Kd.R_types HO_367001.out BK378.out (by decide)) (fun _ hk => hk.2) (.int .i64 t374)) (fun _ hk => hk.2) (.slice Ao37 t375.length co37)) (fun _ h_ => h_.1)) hb); have n2_ := Aside0.mk (Kd.R_below (Kd.R_mono (Kd.R_far (p := ⟨gb378, 1, none⟩) (Kd.R_far (p := ⟨gb378, 0, none⟩) (Kd.R_types HO377.out BK378.out (by decide)) (fun _ hk => hk.2) (.int .i64 t374)) (fun _ hk => hk.2) (.slice Ao37 t375.length co37)) (fun _ h_ => h_.1)) hb); have n3_ := Aside0.mk (Kd.R_lower (Kd.R_new' ho0 (Kd.R_lt (Kd.R_mono (Kd.R_far (p := ⟨gb378, 1, none⟩) (Kd.R_far (p := ⟨gb378, 0, none⟩) (Kd.R_types HO_4.out BK378.out (by decide)) (fun _ hk => hk.2) (.int .i64 t374)) (fun _ hk => hk.2) (.slice Ao37 t375.length co37)) (fun _ h_ => h_.1)))) (below_size (by repeat (first | (with_reducible first | exact HB.out | apply below_alloc | apply pw_below_drewN | apply below_drew1 | refine below_set ?_ GE366.out | refine below_set ?_ GE378.out) | exact HB.out)))); have n4_ := Aside0.mk (blk_below (g := gb366) (o := .cells #[.int .i64 t362, .slice Ao12 t363.length co12] 26 (0, 0)) (by (with_reducible repeat (first | refine blk_drewN ?_ _ | refine blk_drew ?_ | refine blk_alloc ?_ _)); refine blk_far ?_ NB366_378.out _; (with_reducible repeat (first | refine blk_drewN ?_ _ | refine blk_drew ?_ | refine blk_alloc ?_ _)); refine blk_far ?_ NB366_378.out _; (with_reducible repeat (first | refine blk_drewN ?_ _ | refine blk_drew ?_ | refine blk_alloc ?_ _)); exact BK366.out) hb); have n5_ := Aside0.mk (blk_below (g := gb378) (o := .cells #[.int .i64 t374, .slice Ao37 t375.length co37] 26 (0, 0)) (by (with_reducible repeat (first | refine blk_drewN ?_ _ | refine blk_drew ?_ | refine blk_alloc ?_ _)); refine blk_put (cs := #[.int .i64 t374, .slice none 0 0]) ?_ 1 _ rfl; (with_reducible repeat (first | refine blk_drewN ?_ _ | refine blk_drew ?_ | refine blk_alloc ?_ _)); refine blk_put (cs := #[.int .i64 0, .slice none 0 0]) ?_ 0 _ rfl; (with_reducible repeat (first | refine blk_drewN ?_ _ | refine blk_drew ?_ | refine blk_alloc ?_ _)); exact BK378.out) hb); have n6_ := Aside0.mk (below_step (by repeat (first | (with_reducible first | exact HB.out | apply below_alloc | apply pw_below_drewN | apply below_drew1 | refine below_set ?_ GE366.out | refine below_set ?_ GE378.out) | exact HB.out)) hb); clear HO_4; clear HO_367001; clear HO377; clear BK366; clear BK378; clear HB; have HO_4 := n0_; have HO_367001 := n1_; have HO377 := n2_; have HO381 := n3_; have BK366 := n4_; have BK378 := n5_; have HB := n6_; clear n0_ n1_ n2_ n3_ n4_ n5_ n6_; (try clear hb); (try clear hb2); (try clear hk); (try clear hi); (try clear ho0); have hcz39_0 : w38.cell? ⟨gb378, 0, none⟩ = some (.int .i64 t374) := (blk_cell BK378.out 0).trans rfl; have hcz39_1 : w38.cell? ⟨gb378, 1, none⟩ = some (.slice Ao37 t375.length co37) := (blk_cell BK378.out 1).trans rfl; have hfz39_0 := blk_frozen BK378.out 0; have hfz39_1 := blk_frozen BK378.out 1; have hcz40_0 : w38.cell? ⟨gb366, 0, none⟩ = some (.int .i64 t362) := (blk_cell BK366.out 0).trans rfl; have hcz40_1 : w38.cell? ⟨gb366, 1, none⟩ = some (.slice Ao12 t363.length co12) := (blk_cell BK366.out 1).trans rfl; have hfz40_0 := blk_frozen BK366.out 0; have hfz40_1 := blk_frozen BK366.out 1; obtain ⟨Ao41, co41, eo41⟩ := Kd.R_slice HO381.out; subst eo41))
     replace HO_4 := Aside0.mk (Kd.R_drew HO_4.out)
     replace HO_367001 := Aside0.mk (Kd.R_drew HO_367001.out)
     replace HO377 := Aside0.mk (Kd.R_drew HO377.out)
     replace HO381 := Aside0.mk (Kd.R_drew HO381.out)
     replace BK366 := Aside0.mk (blk_drew BK366.out)
     replace BK378 := Aside0.mk (blk_drew BK378.out)
     replace HB := Aside0.mk (below_drew1 HB.out)
     have p382 : 0 ≤ (x5_1 : Int) := of_decide_eq_true (by first | (with_reducible assumption) | assumption)
     have q382 : x5_1 < (t363.length : Int) := of_decide_eq_true (by first | (with_reducible assumption) | assumption)
     obtain ⟨ad382, e382, hx382_0, hx382_1, hx382_2, hx382_3⟩ := at_T54 (Kd.R_reads' HO_367001.out).2.2 x5_1 p382 q382
     cases e382
     replace p382 := eq_true p382
     replace q382 := eq_true q382
     have p383 : 0 ≤ (((rd_T54 t363 x5_1).f0) : Int) := of_decide_eq_true (by first | (with_reducible assumption) | assumption)
     have q383 : ((rd_T54 t363 x5_1).f0) < (t379.length : Int) := of_decide_eq_true (by first | (with_reducible assumption) | assumption)
     obtain ⟨ad383, e383, hx383_0⟩ := Kd.at_int (Kd.R_reads' HO381.out).2.2 ((rd_T54 t363 x5_1).f0) p383 q383
     cases e383
     replace p383 := eq_true p383
     replace q383 := eq_true q383
     have p384 : 0 ≤ (x5_1 : Int) := of_decide_eq_true (by first | (with_reducible assumption) | assumption)
     have q384 : x5_1 < (t363.length : Int) := of_decide_eq_true (by first | (with_reducible assumption) | assumption)
     obtain ⟨ad384, e384, hx384_0, hx384_1, hx384_2, hx384_3⟩ := at_T54 (Kd.R_reads' HO_367001.out).2.2 x5_1 p384 q384
     obtain rfl : ad382 = ad384 := (by injection e384)
     replace p384 := eq_true p384
     replace q384 := eq_true q384
     have p385 : 0 ≤ (((rd_T54 t363 x5_1).f1) : Int) := of_decide_eq_true (by first | (with_reducible assumption) | assumption)
     have q385 : ((rd_T54 t363 x5_1).f1) < (t379.length : Int) := of_decide_eq_true (by first | (with_reducible assumption) | assumption)
     obtain ⟨ad385, e385, hx385_0⟩ := Kd.at_int (Kd.R_reads' HO381.out).2.2 ((rd_T54 t363 x5_1).f1) p385 q385
     obtain rfl : ad383 = ad385 := (by injection e385)
     replace p385 := eq_true p385
     replace q385 := eq_true q385
     refine start_ (n := 20) (S := fun w' => w'.cell? ⟨gb366, 0, none⟩ = some (.int .i64 t362) ∧ w'.cell? ⟨gb366, 1, none⟩ = some (.slice (some ad382) t363.length co12) ∧ w'.cell? (ad382.add ((x5_1).toNat * 4)) = some (.int .i64 ((rd_T54 t363 x5_1).f0)) ∧ w'.cell? ⟨(ad382.add ((x5_1).toNat * 4)).block, (ad382.add ((x5_1).toNat * 4)).off + 1, none⟩ = some (.int .i64 ((rd_T54 t363 x5_1).f1)) ∧ w'.cell? ⟨(ad382.add ((x5_1).toNat * 4)).block, (ad382.add ((x5_1).toNat * 4)).off + 2, none⟩ = some (.int .i64 ((rd_T54 t363 x5_1).f2)) ∧ w'.cell? ⟨(ad382.add ((x5_1).toNat * 4)).block, (ad382.add ((x5_1).toNat * 4)).off + 3, none⟩ = some (.int .i64 ((rd_T54 t363 x5_1).f3)) ∧ w'.cell? (ad383.add (((rd_T54 t363 x5_1).f0)).toNat) = some (.int .i64 (rd t379 ((rd_T54 t363 x5_1).f0))) ∧ w'.cell? (ad382.add ((x5_1).toNat * 4)) = some (.int .i64 ((rd_T54 t363 x5_1).f0)) ∧ w'.cell? ⟨(ad382.add ((x5_1).toNat * 4)).block, (ad382.add ((x5_1).toNat * 4)).off + 1, none⟩ = some (.int .i64 ((rd_T54 t363 x5_1).f1)) ∧ w'.cell? ⟨(ad382.add ((x5_1).toNat * 4)).block, (ad382.add ((x5_1).toNat * 4)).off + 2, none⟩ = some (.int .i64 ((rd_T54 t363 x5_1).f2)) ∧ w'.cell? ⟨(ad382.add ((x5_1).toNat * 4)).block, (ad382.add ((x5_1).toNat * 4)).off + 3, none⟩ = some (.int .i64 ((rd_T54 t363 x5_1).f3)) ∧ w'.cell? (ad383.add (((rd_T54 t363 x5_1).f1)).toNat) = some (.int .i64 (rd t379 ((rd_T54 t363 x5_1).f1)))) (ds := []) #[false, false, false, false, false, false, false, false, false, false, false, false, false, false, false, false, false, false, false, false] (by kernel_rfl) rfl rfl ⟨(blk_cell BK366.out 0).trans rfl, (blk_cell BK366.out 1).trans rfl, hx382_0, hx382_1, hx382_2, hx382_3, hx383_0, hx384_0, hx384_1, hx384_2, hx384_3, hx385_0⟩ (fun hHeld => ?_); refine with_tabW laws_FnBridges.tab14 laws_FnBridges.bits14 (fun HT_ HW_ => ?_)
     generalize w38.drew = w42 at HO_4 HO_367001 HO377 HO381 BK366 BK378 HB hx382_0 hx382_1 hx382_2 hx382_3 hx383_0 hx384_0 hx384_1 hx384_2 hx384_3 hx385_0 hHeld ⊢
     refine pure_ (i := 0) (N := some 49) (v := ?_) (a' := ?_) #[true, false, false, false, false, false, false, false, false, false, false, false, false, false, false, false, false, false, false, false] rfl rfl (any_of HT_.out (by kernel_rfl)) (fun _ _ _ h => h) (Or.inl ⟨by rfl, ?_⟩) ?_ ?_
     rotate_left
     ·intro w'
      go_simp
      with_reducible rfl
     rotate_left
     ·simp only [Act.put, List.setIfInBounds_toArray, List.set_cons_zero, List.set_cons_succ, i64_w, i32_w]
      rfl
     refine pure_ (i := 1) (N := some 50) (v := ?_) (a' := ?_) #[true, true, false, false, false, false, false, false, false, false, false, false, false, false, false, false, false, false, false, false] rfl rfl (any_of HT_.out (by kernel_rfl)) (fun _ _ _ h => h) (Or.inl ⟨by rfl, ?_⟩) ?_ ?_
     rotate_left
     ·intro w'
      go_simp
      with_reducible rfl
     rotate_left
     ·simp only [Act.put, List.setIfInBounds_toArray, List.set_cons_zero, List.set_cons_succ, i64_w, i32_w]
      rfl
     refine pure_ (i := 3) (N := some 52) (v := ?_) (a' := ?_) #[true, true, false, true, false, false, false, false, false, false, false, false, false, false, false, false, false, false, false, false] rfl rfl (any_of HT_.out (by kernel_rfl)) (fun _ _ _ h => h) (Or.inl ⟨by rfl, ?_⟩) ?_ ?_
     rotate_left
     ·intro w'
      go_simp
      with_reducible rfl
     rotate_left
     ·simp only [Act.put, List.setIfInBounds_toArray, List.set_cons_zero, List.set_cons_succ, i64_w, i32_w]
      rfl
     refine pure_ (i := 9) (N := some 58) (v := ?_) (a' := ?_) #[true, true, false, true, false, false, false, false, false, true, false, false, false, false, false, false, false, false, false, false] rfl rfl (any_of HT_.out (by kernel_rfl)) (fun _ _ _ h => h) (Or.inl ⟨by rfl, ?_⟩) ?_ ?_
     rotate_left
     ·intro w'
      go_simp
      with_reducible rfl
     rotate_left
     ·simp only [Act.put, List.setIfInBounds_toArray, List.set_cons_zero, List.set_cons_succ, i64_w, i32_w]
      rfl
     refine pure_ (i := 10) (N := some 59) (v := ?_) (a' := ?_) #[true, true, false, true, false, false, false, false, false, true, true, false, false, false, false, false, false, false, false, false] rfl rfl (any_of HT_.out (by kernel_rfl)) (fun _ _ _ h => h) (Or.inl ⟨by rfl, ?_⟩) ?_ ?_
     rotate_left
     ·intro w'
      go_simp
      with_reducible rfl
     rotate_left
     ·simp only [Act.put, List.setIfInBounds_toArray, List.set_cons_zero, List.set_cons_succ, i64_w, i32_w]
      rfl
     refine pure_ (i := 12) (N := some 61) (v := ?_) (a' := ?_) #[true, true, false, true, false, false, false, false, false, true, true, false, true, false, false, false, false, false, false, false] rfl rfl (any_of HT_.out (by kernel_rfl)) (fun _ _ _ h => h) (Or.inl ⟨by rfl, ?_⟩) ?_ ?_
     rotate_left
     ·intro w'
      go_simp
      with_reducible rfl
     rotate_left
     ·simp only [Act.put, List.setIfInBounds_toArray, List.set_cons_zero, List.set_cons_succ, i64_w, i32_w]
      rfl
     refine take_ (i := 2) (N := some 51) (v := ?_) (a' := ?_) #[true, true, true, true, false, false, false, false, false, true, true, false, true, false, false, false, false, false, false, false] rfl rfl (take_ofW HT_.out HW_.out (by kernel_rfl)) (fun _ _ _ h => h) (Or.inl ⟨by rfl, ?_⟩) hHeld ?_ ?_
     rotate_left
     ·rintro w' ⟨s0, s1, s2, s3, s4, s5, s6, s7, s8, s9, s10, s11⟩
      go_simp
      with_reducible rfl
     rotate_left
     ·simp only [Act.put, List.setIfInBounds_toArray, List.set_cons_zero, List.set_cons_succ, i64_w, i32_w]
      rfl
     refine pure_ (i := 4) (N := some 53) (v := ?_) (a' := ?_) #[true, true, true, true, true, false, false, false, false, true, true, false, true, false, false, false, false, false, false, false] rfl rfl (any_of HT_.out (by kernel_rfl)) (fun _ _ _ h => h) (Or.inl ⟨by rfl, ?_⟩) ?_ ?_
     rotate_left
     ·intro w'
      go_simp
      with_reducible rfl
     rotate_left
     ·simp only [Act.put, List.setIfInBounds_toArray, List.set_cons_zero, List.set_cons_succ, i64_w, i32_w]
      rfl
     refine pure_ (i := 5) (N := some 54) (v := ?_) (a' := ?_) #[true, true, true, true, true, true, false, false, false, true, true, false, true, false, false, false, false, false, false, false] rfl rfl (any_of HT_.out (by kernel_rfl)) (fun _ _ _ h => h) (Or.inl ⟨by rfl, ?_⟩) ?_ ?_
     rotate_left
     ·intro w'
      go_simp
      with_reducible rfl
     rotate_left
     ·simp only [Act.put, List.setIfInBounds_toArray, List.set_cons_zero, List.set_cons_succ, i64_w, i32_w]
      rfl
     refine take_ (i := 6) (N := some 55) (v := ?_) (a' := ?_) #[true, true, true, true, true, true, true, false, false, true, true, false, true, false, false, false, false, false, false, false] rfl rfl (take_ofW HT_.out HW_.out (by kernel_rfl)) (fun _ _ _ h => h) (Or.inl ⟨by rfl, ?_⟩) hHeld ?_ ?_
     rotate_left
     ·rintro w' ⟨s0, s1, s2, s3, s4, s5, s6, s7, s8, s9, s10, s11⟩
      go_simp
      with_reducible rfl
     rotate_left
     ·simp only [Act.put, List.setIfInBounds_toArray, List.set_cons_zero, List.set_cons_succ, i64_w, i32_w]
      rfl
     refine pure_ (i := 7) (N := some 56) (v := ?_) (a' := ?_) #[true, true, true, true, true, true, true, true, false, true, true, false, true, false, false, false, false, false, false, false] rfl rfl (any_of HT_.out (by kernel_rfl)) (fun _ _ _ h => h) (Or.inl ⟨by rfl, ?_⟩) ?_ ?_
     rotate_left
     ·intro w'
      go_simp
      with_reducible rfl
     rotate_left
     ·simp only [Act.put, List.setIfInBounds_toArray, List.set_cons_zero, List.set_cons_succ, i64_w, i32_w]
      rfl
     refine take_ (i := 8) (N := some 57) (v := ?_) (a' := ?_) #[true, true, true, true, true, true, true, true, true, true, true, false, true, false, false, false, false, false, false, false] rfl rfl (take_ofW HT_.out HW_.out (by kernel_rfl)) (fun _ _ _ h => h) (Or.inl ⟨by rfl, ?_⟩) hHeld ?_ ?_
     rotate_left
     ·rintro w' ⟨s0, s1, s2, s3, s4, s5, s6, s7, s8, s9, s10, s11⟩
      go_simp
      with_reducible rfl
     rotate_left
     ·simp only [Act.put, List.setIfInBounds_toArray, List.set_cons_zero, List.set_cons_succ, i64_w, i32_w]
      rfl
     refine take_ (i := 11) (N := some 60) (v := ?_) (a' := ?_) #[true, true, true, true, true, true, true, true, true, true, true, true, true, false, false, false, false, false, false, false] rfl rfl (take_ofW HT_.out HW_.out (by kernel_rfl)) (fun _ _ _ h => h) (Or.inl ⟨by rfl, ?_⟩) hHeld ?_ ?_
     rotate_left
     ·rintro w' ⟨s0, s1, s2, s3, s4, s5, s6, s7, s8, s9, s10, s11⟩
      go_simp
      with_reducible rfl
     rotate_left
     ·simp only [Act.put, List.setIfInBounds_toArray, List.set_cons_zero, List.set_cons_succ, i64_w, i32_w]
      rfl
     refine pure_ (i := 13) (N := some 62) (v := ?_) (a' := ?_) #[true, true, true, true, true, true, true, true, true, true, true, true, true, true, false, false, false, false, false, false] rfl rfl (any_of HT_.out (by kernel_rfl)) (fun _ _ _ h => h) (Or.inl ⟨by rfl, ?_⟩) ?_ ?_
     rotate_left
     ·intro w'
      go_simp
      with_reducible rfl
     rotate_left
     ·simp only [Act.put, List.setIfInBounds_toArray, List.set_cons_zero, List.set_cons_succ, i64_w, i32_w]
      rfl
     refine pure_ (i := 14) (N := some 63) (v := ?_) (a' := ?_) #[true, true, true, true, true, true, true, true, true, true, true, true, true, true, true, false, false, false, false, false] rfl rfl (any_of HT_.out (by kernel_rfl)) (fun _ _ _ h => h) (Or.inl ⟨by rfl, ?_⟩) ?_ ?_
     rotate_left
     ·intro w'
      go_simp
      with_reducible rfl
     rotate_left
     ·simp only [Act.put, List.setIfInBounds_toArray, List.set_cons_zero, List.set_cons_succ, i64_w, i32_w]
      rfl
     refine take_ (i := 15) (N := some 64) (v := ?_) (a' := ?_) #[true, true, true, true, true, true, true, true, true, true, true, true, true, true, true, true, false, false, false, false] rfl rfl (take_ofW HT_.out HW_.out (by kernel_rfl)) (fun _ _ _ h => h) (Or.inl ⟨by rfl, ?_⟩) hHeld ?_ ?_
     rotate_left
     ·rintro w' ⟨s0, s1, s2, s3, s4, s5, s6, s7, s8, s9, s10, s11⟩
      go_simp
      with_reducible rfl
     rotate_left
     ·simp only [Act.put, List.setIfInBounds_toArray, List.set_cons_zero, List.set_cons_succ, i64_w, i32_w]
      rfl
     refine pure_ (i := 16) (N := some 65) (v := ?_) (a' := ?_) #[true, true, true, true, true, true, true, true, true, true, true, true, true, true, true, true, true, false, false, false] rfl rfl (any_of HT_.out (by kernel_rfl)) (fun _ _ _ h => h) (Or.inl ⟨by rfl, ?_⟩) ?_ ?_
     rotate_left
     ·intro w'
      go_simp
      with_reducible rfl
     rotate_left
     ·simp only [Act.put, List.setIfInBounds_toArray, List.set_cons_zero, List.set_cons_succ, i64_w, i32_w]
      rfl
     refine take_ (i := 17) (N := some 66) (v := ?_) (a' := ?_) #[true, true, true, true, true, true, true, true, true, true, true, true, true, true, true, true, true, true, false, false] rfl rfl (take_ofW HT_.out HW_.out (by kernel_rfl)) (fun _ _ _ h => h) (Or.inl ⟨by rfl, ?_⟩) hHeld ?_ ?_
     rotate_left
     ·rintro w' ⟨s0, s1, s2, s3, s4, s5, s6, s7, s8, s9, s10, s11⟩
      go_simp
      with_reducible rfl
     rotate_left
     ·simp only [Act.put, List.setIfInBounds_toArray, List.set_cons_zero, List.set_cons_succ, i64_w, i32_w]
      rfl
     refine pure_ (i := 18) (N := some 67) (v := ?_) (a' := ?_) #[true, true, true, true, true, true, true, true, true, true, true, true, true, true, true, true, true, true, true, false] rfl rfl (any_of HT_.out (by kernel_rfl)) (fun _ _ _ h => h) (Or.inl ⟨by rfl, ?_⟩) ?_ ?_
     rotate_left
     ·intro w'
      go_simp
      with_reducible rfl
     rotate_left
     ·simp only [Act.put, List.setIfInBounds_toArray, List.set_cons_zero, List.set_cons_succ, i64_w, i32_w]
      rfl
     refine pure_ (i := 19) (N := some 8) (v := ?_) (a' := ?_) #[true, true, true, true, true, true, true, true, true, true, true, true, true, true, true, true, true, true, true, true] rfl rfl (any_of HT_.out (by kernel_rfl)) (fun _ _ _ h => h) (Or.inl ⟨by rfl, ?_⟩) ?_ ?_
     rotate_left
     ·intro w'
      go_simp
      with_reducible rfl
     rotate_left
     ·simp only [Act.put, List.setIfInBounds_toArray, List.set_cons_zero, List.set_cons_succ, i64_w, i32_w]
      rfl
     refine done_ (done_of HT_.out (by kernel_rfl)) ?_
     try go_wp2_with (first | ((with_reducible refine gate_callee (f := 18) rfl ?_); refine goesL_ (some 71) rfl rfl Try.func18 (by kernel_rfl) rfl #[.slice Ao16 t367.length co16, .int .i64 x5_1] rfl (by (try simp only [List.map_toArray, List.map_cons, List.map_nil]); first | done | rfl | (simp only [List.length_drop, List.length_take]; rfl)) ?_; (with_reducible refine (laws_within.calls k1 _ _ t367 x5_1 false _ ?side1 ?side2 (A28.out.trans (congrArg some e_t386))).mono ?_); (case side1 => repeat (first | exact (Kd.R_reads' HO_4.out).2.2 | (with_reducible refine Kd.C_alloc ?_ _) | (with_reducible refine Kd.C_drewN ?_ _) | (with_reducible refine Kd.C_drew ?_))); (case side2 => exact (Kd.R_reads' HO_4.out).2.1); rintro e w' ⟨rfl, ⟨nd, rfl⟩⟩; refine ⟨_, rfl, ?_⟩))
     (first | (rw [drewN_self w42]; generalize hq_ : World.drewN w42 _ = w42; have n0_ : Aside0 (Kd.R k54 54 w42 w.heap.size (fun k_ => some k_ ≠ (.slice (some ad382) t363.length co12 : Value).ownBlock) (.slice Ao37 t375.length co37) t375) := ⟨by rw [← hq_]; exact (by (with_reducible repeat (first | apply Kd.R_alloc | apply Kd.R_drewN | apply Kd.R_drew)); exact Kd.R_mono HO377.out (fun _ hk => hk.2))⟩; have n1_ : Aside0 (Kd.R (Kd.int .i64) 3 w42 w.heap.size (fun k_ => some k_ ≠ (.slice Ao16 t367.length co16 : Value).ownBlock) (.slice (some ad383) t379.length co41) t379) := ⟨by rw [← hq_]; exact (by (with_reducible repeat (first | apply Kd.R_alloc | apply Kd.R_drewN | apply Kd.R_drew)); exact Kd.R_mono HO381.out (fun _ hk => hk.2))⟩; have n2_ : Aside0 (Kd.R k54 54 w42 w.heap.size (fun k_ => some k_ ≠ (.slice Ao37 t375.length co37 : Value).ownBlock) (.slice (some ad382) t363.length co12) t363) := ⟨by rw [← hq_]; exact (by (with_reducible repeat (first | apply Kd.R_alloc | apply Kd.R_drewN | apply Kd.R_drew)); exact Kd.R_mono HO_367001.out (fun _ hk => hk.2))⟩; have n3_ : Aside0 (Kd.R (Kd.int .i64) 3 w42 w.heap.size (fun k_ => some k_ ≠ (.slice (some ad383) t379.length co41 : Value).ownBlock) (.slice Ao16 t367.length co16) t367) := ⟨by rw [← hq_]; exact (by (with_reducible repeat (first | apply Kd.R_alloc | apply Kd.R_drewN | apply Kd.R_drew)); exact Kd.R_mono HO_4.out (fun _ hk => hk.2))⟩; have n4_ : Aside0 (w42.heap[gb366]? = some (.cells #[.int .i64 t362, .slice (some ad382) t363.length co12] 26 (0, 0))) := ⟨by rw [← hq_]; exact (by (with_reducible repeat (first | refine blk_drewN ?_ _ | refine blk_drew ?_ | refine blk_alloc ?_ _)); exact BK366.out)⟩; have n5_ : Aside0 (w42.heap[gb378]? = some (.cells #[.int .i64 t374, .slice Ao37 t375.length co37] 26 (0, 0))) := ⟨by rw [← hq_]; exact (by (with_reducible repeat (first | refine blk_drewN ?_ _ | refine blk_drew ?_ | refine blk_alloc ?_ _)); exact BK378.out)⟩; have n6_ : Aside0 (Below w.heap.size w w42) := ⟨by rw [← hq_]; exact (by repeat (first | (with_reducible first | exact HB.out | apply below_alloc | apply pw_below_drewN | apply below_drew1 | refine below_set ?_ GE366.out | refine below_set ?_ GE378.out) | exact HB.out))⟩; clear HO377 HO381 HO_367001 HO_4 BK366 BK378 HB hq_; have HO377 := n0_; have HO381 := n1_; have HO_367001 := n2_; have HO_4 := n3_; have BK366 := n4_; have BK378 := n5_; have HB := n6_; clear n0_ n1_ n2_ n3_ n4_ n5_ n6_) | (have n0_ : Aside0 (Kd.R k54 54 w42 w.heap.size (fun k_ => some k_ ≠ (.slice (some ad382) t363.length co12 : Value).ownBlock) (.slice Ao37 t375.length co37) t375) := ⟨(by (with_reducible repeat (first | apply Kd.R_alloc | apply Kd.R_drewN | apply Kd.R_drew)); exact Kd.R_mono HO377.out (fun _ hk => hk.2))⟩; have n1_ : Aside0 (Kd.R (Kd.int .i64) 3 w42 w.heap.size (fun k_ => some k_ ≠ (.slice Ao16 t367.length co16 : Value).ownBlock) (.slice (some ad383) t379.length co41) t379) := ⟨(by (with_reducible repeat (first | apply Kd.R_alloc | apply Kd.R_drewN | apply Kd.R_drew)); exact Kd.R_mono HO381.out (fun _ hk => hk.2))⟩; have n2_ : Aside0 (Kd.R k54 54 w42 w.heap.size (fun k_ => some k_ ≠ (.slice Ao37 t375.length co37 : Value).ownBlock) (.slice (some ad382) t363.length co12) t363) := ⟨(by (with_reducible repeat (first | apply Kd.R_alloc | apply Kd.R_drewN | apply Kd.R_drew)); exact Kd.R_mono HO_367001.out (fun _ hk => hk.2))⟩; have n3_ : Aside0 (Kd.R (Kd.int .i64) 3 w42 w.heap.size (fun k_ => some k_ ≠ (.slice (some ad383) t379.length co41 : Value).ownBlock) (.slice Ao16 t367.length co16) t367) := ⟨(by (with_reducible repeat (first | apply Kd.R_alloc | apply Kd.R_drewN | apply Kd.R_drew)); exact Kd.R_mono HO_4.out (fun _ hk => hk.2))⟩; have n4_ : Aside0 (w42.heap[gb366]? = some (.cells #[.int .i64 t362, .slice (some ad382) t363.length co12] 26 (0, 0))) := ⟨(by (with_reducible repeat (first | refine blk_drewN ?_ _ | refine blk_drew ?_ | refine blk_alloc ?_ _)); exact BK366.out)⟩; have n5_ : Aside0 (w42.heap[gb378]? = some (.cells #[.int .i64 t374, .slice Ao37 t375.length co37] 26 (0, 0))) := ⟨(by (with_reducible repeat (first | refine blk_drewN ?_ _ | refine blk_drew ?_ | refine blk_alloc ?_ _)); exact BK378.out)⟩; have n6_ : Aside0 (Below w.heap.size w w42) := ⟨(by repeat (first | (with_reducible first | exact HB.out | apply below_alloc | apply pw_below_drewN | apply below_drew1 | refine below_set ?_ GE366.out | refine below_set ?_ GE378.out) | exact HB.out))⟩; clear HO377 HO381 HO_367001 HO_4 BK366 BK378 HB; have HO377 := n0_; have HO381 := n1_; have HO_367001 := n2_; have HO_4 := n3_; have BK366 := n4_; have BK378 := n5_; have HB := n6_; clear n0_ n1_ n2_ n3_ n4_ n5_ n6_))
     replace HO_4 := Aside0.mk (Kd.R_drew HO_4.out)
     replace HO_367001 := Aside0.mk (Kd.R_drew HO_367001.out)
     replace HO377 := Aside0.mk (Kd.R_drew HO377.out)
     replace HO381 := Aside0.mk (Kd.R_drew HO381.out)
     replace BK366 := Aside0.mk (blk_drew BK366.out)
     replace BK378 := Aside0.mk (blk_drew BK378.out)
     replace HB := Aside0.mk (below_drew1 HB.out)
     have p387 : 0 ≤ (x5_1 : Int) := of_decide_eq_true (by first | (with_reducible assumption) | assumption)
     have q387 : x5_1 < (t363.length : Int) := of_decide_eq_true (by first | (with_reducible assumption) | assumption)
     obtain ⟨ad387, e387, hx387_0, hx387_1, hx387_2, hx387_3⟩ := at_T54 (Kd.R_reads' HO_367001.out).2.2 x5_1 p387 q387
     obtain rfl : ad382 = ad387 := (by injection e387)
     replace p387 := eq_true p387
     replace q387 := eq_true q387
     have p388 : 0 ≤ (x5_1 : Int) := of_decide_eq_true (by first | (with_reducible assumption) | assumption)
     have q388 : x5_1 < (t363.length : Int) := of_decide_eq_true (by first | (with_reducible assumption) | assumption)
     obtain ⟨ad388, e388, hx388_0, hx388_1, hx388_2, hx388_3⟩ := at_T54 (Kd.R_reads' HO_367001.out).2.2 x5_1 p388 q388
     obtain rfl : ad382 = ad388 := (by injection e388)
     replace p388 := eq_true p388
     replace q388 := eq_true q388
     refine start_ (n := 19) (S := fun w' => w'.cell? ⟨gb366, 0, none⟩ = some (.int .i64 t362) ∧ w'.cell? ⟨gb366, 1, none⟩ = some (.slice (some ad382) t363.length co12) ∧ w'.cell? (ad382.add ((x5_1).toNat * 4)) = some (.int .i64 ((rd_T54 t363 x5_1).f0)) ∧ w'.cell? ⟨(ad382.add ((x5_1).toNat * 4)).block, (ad382.add ((x5_1).toNat * 4)).off + 1, none⟩ = some (.int .i64 ((rd_T54 t363 x5_1).f1)) ∧ w'.cell? ⟨(ad382.add ((x5_1).toNat * 4)).block, (ad382.add ((x5_1).toNat * 4)).off + 2, none⟩ = some (.int .i64 ((rd_T54 t363 x5_1).f2)) ∧ w'.cell? ⟨(ad382.add ((x5_1).toNat * 4)).block, (ad382.add ((x5_1).toNat * 4)).off + 3, none⟩ = some (.int .i64 ((rd_T54 t363 x5_1).f3)) ∧ w'.cell? (ad382.add ((x5_1).toNat * 4)) = some (.int .i64 ((rd_T54 t363 x5_1).f0)) ∧ w'.cell? ⟨(ad382.add ((x5_1).toNat * 4)).block, (ad382.add ((x5_1).toNat * 4)).off + 1, none⟩ = some (.int .i64 ((rd_T54 t363 x5_1).f1)) ∧ w'.cell? ⟨(ad382.add ((x5_1).toNat * 4)).block, (ad382.add ((x5_1).toNat * 4)).off + 2, none⟩ = some (.int .i64 ((rd_T54 t363 x5_1).f2)) ∧ w'.cell? ⟨(ad382.add ((x5_1).toNat * 4)).block, (ad382.add ((x5_1).toNat * 4)).off + 3, none⟩ = some (.int .i64 ((rd_T54 t363 x5_1).f3))) (ds := []) #[false, false, false, false, false, false, false, false, false, false, false, false, false, false, false, false, false, false, false] (by kernel_rfl) rfl rfl ⟨(blk_cell BK366.out 0).trans rfl, (blk_cell BK366.out 1).trans rfl, hx387_0, hx387_1, hx387_2, hx387_3, hx388_0, hx388_1, hx388_2, hx388_3⟩ (fun hHeld => ?_); refine with_tabW laws_FnBridges.tab17 laws_FnBridges.bits17 (fun HT_ HW_ => ?_)
     generalize w42.drew = w43 at HO_4 HO_367001 HO377 HO381 BK366 BK378 HB hx387_0 hx387_1 hx387_2 hx387_3 hx388_0 hx388_1 hx388_2 hx388_3 hHeld ⊢
     refine pure_ (i := 1) (N := some 75) (v := ?_) (a' := ?_) #[false, true, false, false, false, false, false, false, false, false, false, false, false, false, false, false, false, false, false] rfl rfl (any_of HT_.out (by kernel_rfl)) (fun _ _ _ h => h) (Or.inl ⟨by rfl, ?_⟩) ?_ ?_
     rotate_left
     ·intro w'
      go_simp
      with_reducible rfl
     rotate_left
     ·simp only [Act.put, List.setIfInBounds_toArray, List.set_cons_zero, List.set_cons_succ, i64_w, i32_w]
      rfl
     refine pure_ (i := 3) (N := some 77) (v := ?_) (a' := ?_) #[false, true, false, true, false, false, false, false, false, false, false, false, false, false, false, false, false, false, false] rfl rfl (any_of HT_.out (by kernel_rfl)) (fun _ _ _ h => h) (Or.inl ⟨by rfl, ?_⟩) ?_ ?_
     rotate_left
     ·intro w'
      go_simp
      with_reducible rfl
     rotate_left
     ·simp only [Act.put, List.setIfInBounds_toArray, List.set_cons_zero, List.set_cons_succ, i64_w, i32_w]
      rfl
     refine pure_ (i := 7) (N := some 81) (v := ?_) (a' := ?_) #[false, true, false, true, false, false, false, true, false, false, false, false, false, false, false, false, false, false, false] rfl rfl (any_of HT_.out (by kernel_rfl)) (fun _ _ _ h => h) (Or.inl ⟨by rfl, ?_⟩) ?_ ?_
     rotate_left
     ·intro w'
      go_simp
      with_reducible rfl
     rotate_left
     ·simp only [Act.put, List.setIfInBounds_toArray, List.set_cons_zero, List.set_cons_succ, i64_w, i32_w]
      rfl
     refine pure_ (i := 9) (N := some 83) (v := ?_) (a' := ?_) #[false, true, false, true, false, false, false, true, false, true, false, false, false, false, false, false, false, false, false] rfl rfl (any_of HT_.out (by kernel_rfl)) (fun _ _ _ h => h) (Or.inl ⟨by rfl, ?_⟩) ?_ ?_
     rotate_left
     ·intro w'
      go_simp
      with_reducible rfl
     rotate_left
     ·simp only [Act.put, List.setIfInBounds_toArray, List.set_cons_zero, List.set_cons_succ, i64_w, i32_w]
      rfl
     refine take_ (i := 0) (N := some 74) (v := ?_) (a' := ?_) #[true, true, false, true, false, false, false, true, false, true, false, false, false, false, false, false, false, false, false] rfl rfl (take_ofW HT_.out HW_.out (by kernel_rfl)) (fun _ _ _ h => h) (Or.inl ⟨by rfl, ?_⟩) hHeld ?_ ?_
     rotate_left
     ·rintro w' ⟨s0, s1, s2, s3, s4, s5, s6, s7, s8, s9⟩
      go_simp
      with_reducible rfl
     rotate_left
     ·simp only [Act.put, List.setIfInBounds_toArray, List.set_cons_zero, List.set_cons_succ, i64_w, i32_w]
      rfl
     refine take_ (i := 2) (N := some 76) (v := ?_) (a' := ?_) #[true, true, true, true, false, false, false, true, false, true, false, false, false, false, false, false, false, false, false] rfl rfl (take_ofW HT_.out HW_.out (by kernel_rfl)) (fun _ _ _ h => h) (Or.inl ⟨by rfl, ?_⟩) hHeld ?_ ?_
     rotate_left
     ·rintro w' ⟨s0, s1, s2, s3, s4, s5, s6, s7, s8, s9⟩
      go_simp
      with_reducible rfl
     rotate_left
     ·simp only [Act.put, List.setIfInBounds_toArray, List.set_cons_zero, List.set_cons_succ, i64_w, i32_w]
      rfl
     refine pure_ (i := 4) (N := some 78) (v := ?_) (a' := ?_) #[true, true, true, true, true, false, false, true, false, true, false, false, false, false, false, false, false, false, false] rfl rfl (any_of HT_.out (by kernel_rfl)) (fun _ _ _ h => h) (Or.inl ⟨by rfl, ?_⟩) ?_ ?_
     rotate_left
     ·intro w'
      go_simp
      with_reducible rfl
     rotate_left
     ·simp only [Act.put, List.setIfInBounds_toArray, List.set_cons_zero, List.set_cons_succ, i64_w, i32_w]
      rfl
     refine pure_ (i := 5) (N := some 79) (v := ?_) (a' := ?_) #[true, true, true, true, true, true, false, true, false, true, false, false, false, false, false, false, false, false, false] rfl rfl (any_of HT_.out (by kernel_rfl)) (fun _ _ _ h => h) (Or.inl ⟨by rfl, ?_⟩) ?_ ?_
     rotate_left
     ·intro w'
      go_simp
      with_reducible rfl
     rotate_left
     ·simp only [Act.put, List.setIfInBounds_toArray, List.set_cons_zero, List.set_cons_succ, i64_w, i32_w]
      rfl
     refine take_ (i := 6) (N := some 80) (v := ?_) (a' := ?_) #[true, true, true, true, true, true, true, true, false, true, false, false, false, false, false, false, false, false, false] rfl rfl (take_ofW HT_.out HW_.out (by kernel_rfl)) (fun _ _ _ h => h) (Or.inl ⟨by rfl, ?_⟩) hHeld ?_ ?_
     rotate_left
     ·rintro w' ⟨s0, s1, s2, s3, s4, s5, s6, s7, s8, s9⟩
      go_simp
      with_reducible rfl
     rotate_left
     ·simp only [Act.put, List.setIfInBounds_toArray, List.set_cons_zero, List.set_cons_succ, i64_w, i32_w]
      rfl
     refine take_ (i := 8) (N := some 82) (v := ?_) (a' := ?_) #[true, true, true, true, true, true, true, true, true, true, false, false, false, false, false, false, false, false, false] rfl rfl (take_ofW HT_.out HW_.out (by kernel_rfl)) (fun _ _ _ h => h) (Or.inl ⟨by rfl, ?_⟩) hHeld ?_ ?_
     rotate_left
     ·rintro w' ⟨s0, s1, s2, s3, s4, s5, s6, s7, s8, s9⟩
      go_simp
      with_reducible rfl
     rotate_left
     ·simp only [Act.put, List.setIfInBounds_toArray, List.set_cons_zero, List.set_cons_succ, i64_w, i32_w]
      rfl
     refine pure_ (i := 10) (N := some 84) (v := ?_) (a' := ?_) #[true, true, true, true, true, true, true, true, true, true, true, false, false, false, false, false, false, false, false] rfl rfl (any_of HT_.out (by kernel_rfl)) (fun _ _ _ h => h) (Or.inl ⟨by rfl, ?_⟩) ?_ ?_
     rotate_left
     ·intro w'
      go_simp
      with_reducible rfl
     rotate_left
     ·simp only [Act.put, List.setIfInBounds_toArray, List.set_cons_zero, List.set_cons_succ, i64_w, i32_w]
      rfl
     refine pure_ (i := 11) (N := some 85) (v := ?_) (a' := ?_) #[true, true, true, true, true, true, true, true, true, true, true, true, false, false, false, false, false, false, false] rfl rfl (any_of HT_.out (by kernel_rfl)) (fun _ _ _ h => h) (Or.inl ⟨by rfl, ?_⟩) ?_ ?_
     rotate_left
     ·intro w'
      go_simp
      with_reducible rfl
     rotate_left
     ·simp only [Act.put, List.setIfInBounds_toArray, List.set_cons_zero, List.set_cons_succ, i64_w, i32_w]
      rfl
     refine take_ (i := 12) (N := some 86) (v := ?_) (a' := ?_) #[true, true, true, true, true, true, true, true, true, true, true, true, true, false, false, false, false, false, false] rfl rfl (take_ofW HT_.out HW_.out (by kernel_rfl)) (fun _ _ _ h => h) (Or.inl ⟨by rfl, ?_⟩) hHeld ?_ ?_
     rotate_left
     ·rintro w' ⟨s0, s1, s2, s3, s4, s5, s6, s7, s8, s9⟩
      go_simp
      with_reducible rfl
     rotate_left
     ·simp only [Act.put, List.setIfInBounds_toArray, List.set_cons_zero, List.set_cons_succ, i64_w, i32_w]
      rfl
     refine one_ (i := 13) (N := some 87) #[true, true, true, true, true, true, true, true, true, true, true, true, true, true, false, false, false, false, false] rfl rfl (one_of HT_.out (by kernel_rfl)) (by decide) (fun K hK => ?_)
     refine goes_ Try.func17 (by kernel_rfl) rfl #[.agg #[.int .i64 t362, .slice (some ad382) t363.length co12], .int .i64 ((rd_T54 t363 x5_1).f0), .int .i64 ((rd_T54 t363 x5_1).f1)] (by rfl) rfl rfl (by (try simp only [List.map_toArray, List.map_cons, List.map_nil]); first | done | rfl | (simp only [List.length_drop, List.length_take]; rfl)) ?_
     with_reducible refine (impl_Shortest.calls k1 t362 _ _ t363 ((rd_T54 t363 x5_1).f0) ((rd_T54 t363 x5_1).f1) t389 t392 _ ?side1 ?side2 A30.out).mono ?_
     (case side1 => repeat (first | exact (Kd.R_reads' HO_367001.out).2.2 | (with_reducible refine Kd.C_alloc ?_ _) | (with_reducible refine Kd.C_drewN ?_ _) | (with_reducible refine Kd.C_drew ?_)))
     (case side2 => exact (Kd.R_reads' HO_367001.out).2.1)
     rintro e w44 ⟨v390, rfl, ho0, hb⟩
     have HS2_ := (hb.cell (World.block_lt_of_cell? _ _ (hHeld.2.2.1))).trans (hHeld.2.2.1)
     have HS3_ := (hb.cell (World.block_lt_of_cell? _ _ (hHeld.2.2.2.1))).trans (hHeld.2.2.2.1)
     have HS4_ := (hb.cell (World.block_lt_of_cell? _ _ (hHeld.2.2.2.2.1))).trans (hHeld.2.2.2.2.1)
     have HS5_ := (hb.cell (World.block_lt_of_cell? _ _ (hHeld.2.2.2.2.2.1))).trans (hHeld.2.2.2.2.2.1)
     have HS6_ := (hb.cell (World.block_lt_of_cell? _ _ (hHeld.2.2.2.2.2.2.1))).trans (hHeld.2.2.2.2.2.2.1)
     have HS7_ := (hb.cell (World.block_lt_of_cell? _ _ (hHeld.2.2.2.2.2.2.2.1))).trans (hHeld.2.2.2.2.2.2.2.1)
     have HS8_ := (hb.cell (World.block_lt_of_cell? _ _ (hHeld.2.2.2.2.2.2.2.2.1))).trans (hHeld.2.2.2.2.2.2.2.2.1)
     have HS9_ := (hb.cell (World.block_lt_of_cell? _ _ (hHeld.2.2.2.2.2.2.2.2.2))).trans (hHeld.2.2.2.2.2.2.2.2.2)
     refine ⟨_, rfl, ?_⟩
     replace HO_367001 := Aside0.mk (Kd.R_below HO_367001.out hb)
     replace HO377 := Aside0.mk (Kd.R_below HO377.out hb)
     have HO391 := Aside0.mk (Kd.R_lower (Kd.R_new' (Kd.R_new' ho0 (Kd.R_lt HO_4.out)) (Kd.R_lt HO381.out)) (below_size HB.out))
     replace HO_4 := Aside0.mk (Kd.R_elder' HO_4.out (Kd.R_base ho0) hb)
     replace HO381 := Aside0.mk (Kd.R_elder' HO381.out (Kd.R_base ho0) hb)
     replace BK366 := Aside0.mk (blk_below BK366.out hb)
     replace BK378 := Aside0.mk (blk_below BK378.out hb)
     replace HB := Aside0.mk (below_step HB.out hb)
     (try clear hb)
     (try clear hb2)
     (try clear hk)
     (try clear hi)
     (try clear ho0)
     refine hK.out _ _ ⟨(blk_cell BK366.out 0).trans rfl, (blk_cell BK366.out 1).trans rfl, HS2_, HS3_, HS4_, HS5_, HS6_, HS7_, HS8_, HS9_⟩ (fun hHeld => ?_)
     clear hK K
     refine norm_ (a' := ?_) ?_ ?_
     rotate_left
     ·show Act.put _ (some 87) _ = _
      simp only [Act.put, List.setIfInBounds_toArray, List.set_cons_zero, List.set_cons_succ, i64_w, i32_w]
      rfl
     refine pure_ (i := 14) (N := some 73) (v := ?_) (a' := ?_) #[true, true, true, true, true, true, true, true, true, true, true, true, true, true, true, false, false, false, false] rfl rfl (any_of HT_.out (by kernel_rfl)) (fun _ _ _ h => h) (Or.inl ⟨by rfl, ?_⟩) ?_ ?_
     rotate_left
     ·intro w'
      go_simp
      with_reducible rfl
     rotate_left
     ·simp only [Act.put, List.setIfInBounds_toArray, List.set_cons_zero, List.set_cons_succ, i64_w, i32_w]
      rfl
     refine pure_ (i := 15) (N := some 88) (v := ?_) (a' := ?_) #[true, true, true, true, true, true, true, true, true, true, true, true, true, true, true, true, false, false, false] rfl rfl (any_of HT_.out (by kernel_rfl)) (fun _ _ _ h => h) (Or.inl ⟨by rfl, ?_⟩) ?_ ?_
     rotate_left
     ·intro w'
      go_simp
      with_reducible rfl
     rotate_left
     ·simp only [Act.put, List.setIfInBounds_toArray, List.set_cons_zero, List.set_cons_succ, i64_w, i32_w]
      rfl
     refine pure_ (i := 16) (N := some 89) (v := ?_) (a' := ?_) #[true, true, true, true, true, true, true, true, true, true, true, true, true, true, true, true, true, false, false] rfl rfl (any_of HT_.out (by kernel_rfl)) (fun _ _ _ h => h) (Or.inl ⟨by rfl, ?_⟩) ?_ ?_
     rotate_left
     ·intro w'
      go_simp
      with_reducible rfl
     rotate_left
     ·simp only [Act.put, List.setIfInBounds_toArray, List.set_cons_zero, List.set_cons_succ, i64_w, i32_w]
      rfl
     refine pure_ (i := 17) (N := some 9) (v := ?_) (a' := ?_) #[true, true, true, true, true, true, true, true, true, true, true, true, true, true, true, true, true, true, false] rfl rfl (any_of HT_.out (by kernel_rfl)) (fun _ _ _ h => h) (Or.inl ⟨by rfl, ?_⟩) ?_ ?_
     rotate_left
     ·intro w'
      go_simp
      with_reducible rfl
     rotate_left
     ·simp only [Act.put, List.setIfInBounds_toArray, List.set_cons_zero, List.set_cons_succ, i64_w, i32_w]
      rfl
     refine pure_ (i := 18) (N := some 10) (v := ?_) (a' := ?_) #[true, true, true, true, true, true, true, true, true, true, true, true, true, true, true, true, true, true, true] rfl rfl (any_of HT_.out (by kernel_rfl)) (fun _ _ _ h => h) (Or.inl ⟨by rfl, ?_⟩) ?_ ?_
     rotate_left
     ·intro w'
      go_simp
      with_reducible rfl
     rotate_left
     ·simp only [Act.put, List.setIfInBounds_toArray, List.set_cons_zero, List.set_cons_succ, i64_w, i32_w]
      rfl
     refine done_ (done_of HT_.out (by kernel_rfl)) ?_
     try go_wp2
     go_roundg k1
     case measure => have := HK1.out; omega
     case rel => exact ⟨(wrap64 (x5_1 + 1)), (by first | rfl | (simp; done) | (simp [*]; done)), H', ⟨by have := HK1.out; omega⟩, ⟨by (with_reducible repeat (first | apply Kd.R_alloc | apply Kd.R_drewN | apply Kd.R_drew)); exact Kd.R_mono HO_4.out (fun _ hk => trivial)⟩, ⟨by (with_reducible repeat (first | apply Kd.R_alloc | apply Kd.R_drewN | apply Kd.R_drew)); exact Kd.R_mono HO_367001.out (fun _ hk => trivial)⟩, ⟨by (with_reducible repeat (first | refine blk_drewN ?_ _ | refine blk_drew ?_ | refine blk_alloc ?_ _)); exact BK366.out⟩, ⟨by repeat (first | (with_reducible first | exact HB.out | apply below_alloc | apply pw_below_drewN | apply below_drew1 | refine below_set ?_ GE366.out | refine below_set ?_ GE378.out) | exact HB.out)⟩⟩
 subst c3
 have H1 : (some true) = some true := by (first | (rw [if_pos rfl] at H; exact H) | rfl)
 clear H
 have H := H1
 clear H1
 clear H
 go_enter Try.func12, Try.ntmps12
 go_wp2_with (first | ((with_reducible refine gate_callee (f := 14) rfl ?_); refine goesL_ (some 12) rfl rfl Try.func14 (by kernel_rfl) rfl #[.slice A0 l0.length c0] rfl (by (try simp only [List.map_toArray, List.map_cons, List.map_nil]); first | done | rfl | (simp only [List.length_drop, List.length_take]; rfl)) ?_; (with_reducible refine (laws_big.calls _ _ l0 true _ ?side1 ?side2 A2.out).mono ?_); (case side1 => repeat (first | exact HR0.out | (with_reducible refine Kd.C_alloc ?_ _) | (with_reducible refine Kd.C_drewN ?_ _) | (with_reducible refine Kd.C_drew ?_))); (case side2 => exact HC0.out); rintro e w' ⟨rfl, ⟨nd, rfl⟩⟩; refine ⟨_, rfl, ?_⟩))
 go_ret
 exact ⟨by first | rfl | (simp [errW_none, errW_some] <;> rfl) | (simp [*, errW_none, errW_some] <;> rfl), by repeat (first | (with_reducible first | exact HB.out | apply below_alloc | apply pw_below_drewN | apply below_drew1) | exact HB.out)⟩
/-- THE ONE PURE STATEMENT of laws_FnBridges: yours. -/
def laws_FnBridges.Pure : Prop := ∀ (l0 : List Int), l0.length ≤ maxLen → l0.length * 1 ≤ 140737488351232 → (∀ x ∈ l0, (Lit.int .u8 x).wf = true) → ∃ k, laws_FnBridges.f k l0 = some true
theorem laws_FnBridges.walk (P : laws_FnBridges.Pure) (a0 : Option Addr) (len0 cap0 : Nat) (z0 : List Int) (w : World) (w0 : (a0 = none ∧ len0 = 0 ∧ cap0 = 0 ∧ z0 = []) ∨ ∃ x, a0 = some x ∧ len0 ≤ cap0 ∧ cap0 ≤ maxLen ∧ z0.length = cap0 ∧ (∀ i, i < z0.length → w.cell? (x.add i) = some (.int .u8 (z0.getD i 0))) ∧ ∀ n ∈ z0, (Lit.int .u8 n).wf = true) (y0 : len0 * 1 ≤ 140737488351232) :
  Calls Try.prog 12 #[.slice a0 len0 cap0] w fun e w' => e = .returned (.bool true) ∧ Below w.heap.size w w' := by
 obtain ⟨l0, rfl, hr0, hm0, hw0, hc0⟩ := ReadsInt.ofRowC w0
 obtain ⟨k, h⟩ := P l0 hm0 y0 hw0
 refine (laws_FnBridges.calls k _ _ l0 w (Kd.C_of_reads (d := (0 : Int)) (h1 := fun _ => rfl) hr0) hc0 h).mono ?_
 rintro e w' ⟨rfl, hd⟩
 exact ⟨rfl, hd⟩

end Go.Proofs.Ytdeleoghaabjlaa.PFnBridges
