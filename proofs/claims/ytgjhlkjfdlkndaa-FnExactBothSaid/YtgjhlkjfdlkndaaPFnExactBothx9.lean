-- Written by a program of this session (wip/tools/fltprint.py: the kit's printer, taught more).
import Derived.Test.YtgjhlkjfdlkndaaPFnExactBothx0
import Derived.Test.YtgjhlkjfdlkndaaPFnExactBothx1
import Derived.Test.YtgjhlkjfdlkndaaPFnExactBothx5
import Derived.Test.YtgjhlkjfdlkndaaPFnExactBothx7
import Derived.Test.YtgjhlkjfdlkndaaPFnExactBothx8
namespace Go.Proofs.Ytgjhlkjfdlkndaa.PFnExactBoth
open Go.RowKit Go.Proofs.YtgjhlkjfdlkndaaW.PrintWords Go.Proofs.YtgjhlkjfdlkndaaW.PrintLast Go.Proofs.YtgjhlkjfdlkndaaW.PrintMore
attribute [local go_sem] max2_int min2_int max_two min_two max_three min_three max_four min_four   -- for this text's walks alone
set_option linter.unusedVariables false
set_option linter.unusedSimpArgs false
set_option maxHeartbeats 8000000 in
set_option maxRecDepth 100000 in
theorem laws_FnExactBoth.calls (k : Nat) (a0_0 : Int) (a0_1 : Int) (a0_2 : Int) (A0_3 : Option Addr) (c0_3 : Nat) (l0_3 : List Int) (A0_4 : Option Addr) (c0_4 : Nat) (l0_4 : List Int) (a1_0 : Int) (a1_1 : Int) (a1_2 : Int) (A1_3 : Option Addr) (c1_3 : Nat) (l1_3 : List Int) (A1_4 : Option Addr) (c1_4 : Nat) (l1_4 : List Int) (w : World) (hr0_3 : Kd.C (Kd.int .i64) w A0_3 l0_3.length l0_3) (hc0_3 : l0_3.length ≤ c0_3) (hr0_4 : Kd.C (Kd.int .i64) w A0_4 l0_4.length l0_4) (hc0_4 : l0_4.length ≤ c0_4) (hr1_3 : Kd.C (Kd.int .i64) w A1_3 l1_3.length l1_3) (hc1_3 : l1_3.length ≤ c1_3) (hr1_4 : Kd.C (Kd.int .i64) w A1_4 l1_4.length l1_4) (hc1_4 : l1_4.length ≤ c1_4) (h : laws_FnExactBoth.f k a0_0 a0_1 a0_2 l0_3 l0_4 a1_0 a1_1 a1_2 l1_3 l1_4 = some true) :
  Calls Try.prog 9 #[.agg #[.int .i64 a0_0, .int .i64 a0_1, .int .i64 a0_2, .slice A0_3 l0_3.length c0_3, .slice A0_4 l0_4.length c0_4], .agg #[.int .i64 a1_0, .int .i64 a1_1, .int .i64 a1_2, .slice A1_3 l1_3.length c1_3, .slice A1_4 l1_4.length c1_4]] w fun e w' => e = .returned (.bool true) ∧ Below w.heap.size w w' := by
 have hu24 := Try.underlying24
 have hu27 := Try.underlying27
 have HR0_3 := Aside0.mk hr0_3
 have HC0_3 := Aside0.mk hc0_3
 clear hr0_3 hc0_3
 have HR0_4 := Aside0.mk hr0_4
 have HC0_4 := Aside0.mk hc0_4
 clear hr0_4 hc0_4
 have HR1_3 := Aside0.mk hr1_3
 have HC1_3 := Aside0.mk hc1_3
 clear hr1_3 hc1_3
 have HR1_4 := Aside0.mk hr1_4
 have HC1_4 := Aside0.mk hc1_4
 clear hr1_4 hc1_4
 have HB := Aside0.mk (Below.refl w.heap.size w)
 have H := h
 clear h
 unfold laws_FnExactBoth.f at H
 replace H := Option.bind_eq_some_iff.mp H
 obtain ⟨t209, A30, H⟩ := H
 try dsimp only at H
 have A3 := Aside0.mk A30
 clear A30
 by_cases c4 : t209 < 0
 rotate_left
 ·rw [if_neg c4] at H
  have c4b0 : decide (t209 < 0) = false := decide_eq_false c4
  clear c4
  replace H := Option.bind_eq_some_iff.mp H
  obtain ⟨t210, A100, H⟩ := H
  try dsimp only at H
  have A10 := Aside0.mk A100
  clear A100
  by_cases c11 : t210 < 0
  rotate_left
  ·rw [if_neg c11] at H
   have c11b0 : decide (t210 < 0) = false := decide_eq_false c11
   clear c11
   replace H := Option.bind_eq_some_iff.mp H
   obtain ⟨⟨t211, t212, t213, t214, t217⟩, A190, H⟩ := H
   try dsimp only at H
   have A19 := Aside0.mk A190
   clear A190
   replace H := Option.bind_eq_some_iff.mp H
   obtain ⟨⟨t220, t221, t222, t223, t226⟩, A200, H⟩ := H
   try dsimp only at H
   have A20 := Aside0.mk A200
   clear A200
   replace H := Option.bind_eq_some_iff.mp H
   obtain ⟨⟨t229, t230, t231, t232, t235⟩, A210, H⟩ := H
   try dsimp only at H
   have A21 := Aside0.mk A210
   clear A210
   replace H := Option.bind_eq_some_iff.mp H
   obtain ⟨⟨t239, t240, t241, t242, t245⟩, A220, H⟩ := H
   try dsimp only at H
   have A22 := Aside0.mk A220
   clear A220
   replace H := Option.bind_eq_some_iff.mp H
   obtain ⟨⟨t249, t250, t251, t252, t255⟩, A230, H⟩ := H
   try dsimp only at H
   have A23 := Aside0.mk A230
   clear A230
   replace H := Option.bind_eq_some_iff.mp H
   obtain ⟨⟨t259, t260, t261, t262, t265⟩, A240, H⟩ := H
   try dsimp only at H
   have A24 := Aside0.mk A240
   clear A240
   replace H := Option.bind_eq_some_iff.mp H
   obtain ⟨t269, A250, H⟩ := H
   try dsimp only at H
   have A25 := Aside0.mk A250
   clear A250
   by_cases c26 : t269 = true
   rotate_left
   ·replace c26 := Bool.eq_false_iff.mpr c26
    subst c26
    rw [if_neg (by decide)] at H
    exact absurd (Option.some.inj H) (by decide)

   subst c26
   rw [if_pos rfl] at H
   replace H := Option.bind_eq_some_iff.mp H
   obtain ⟨⟨t270, t271, t272, t273, t276⟩, A270, H⟩ := H
   try dsimp only at H
   have A27 := Aside0.mk A270
   clear A270
   replace H := Option.bind_eq_some_iff.mp H
   obtain ⟨t279, A280, H⟩ := H
   try dsimp only at H
   have A28 := Aside0.mk A280
   clear A280
   by_cases c29 : t279 = true
   rotate_left
   ·replace c29 := Bool.eq_false_iff.mpr c29
    subst c29
    rw [if_neg (by decide)] at H
    exact absurd (Option.some.inj H) (by decide)
   subst c29
   rw [if_pos rfl] at H
   replace H := Option.bind_eq_some_iff.mp H
   obtain ⟨⟨t280, t281, t282, t283, t286⟩, A300, H⟩ := H
   try dsimp only at H
   have A30 := Aside0.mk A300
   clear A300
   replace H := Option.bind_eq_some_iff.mp H
   obtain ⟨t289, A310, H⟩ := H
   try dsimp only at H
   have A31 := Aside0.mk A310
   clear A310
   by_cases c32 : t289 = true
   rotate_left
   ·replace c32 := Bool.eq_false_iff.mpr c32
    subst c32
    rw [if_neg (by decide)] at H
    exact absurd (Option.some.inj H) (by decide)
   subst c32
   rw [if_pos rfl] at H
   replace H := Option.bind_eq_some_iff.mp H
   obtain ⟨⟨t290, t291, t292⟩, A330, H⟩ := H
   try dsimp only at H
   have A33 := Aside0.mk A330
   clear A330
   replace H := Option.bind_eq_some_iff.mp H
   obtain ⟨⟨t293, t294, t295⟩, A340, H⟩ := H
   try dsimp only at H
   have A34 := Aside0.mk A340
   clear A340
   by_cases c35 : t293 < 0
   ·rw [if_pos c35] at H
    have c35b0 : decide (t293 < 0) = true := decide_eq_true c35
    clear c35
    exact absurd (Option.some.inj H) (by decide)
   ·rw [if_neg c35] at H
    have c35b0 : decide (t293 < 0) = false := decide_eq_false c35
    clear c35
    replace H := Option.bind_eq_some_iff.mp H
    obtain ⟨t296, A360, H⟩ := H
    try dsimp only at H
    have A36 := Aside0.mk A360
    clear A360
    by_cases c37 : t296 = true
    rotate_left
    ·replace c37 := Bool.eq_false_iff.mpr c37
     subst c37
     rw [if_neg (by decide)] at H
     exact absurd (Option.some.inj H) (by decide)
    subst c37
    rw [if_pos rfl] at H
    replace H := Option.bind_eq_some_iff.mp H
    obtain ⟨⟨t297, t298, t299⟩, A380, H⟩ := H
    try dsimp only at H
    have A38 := Aside0.mk A380
    clear A380
    replace H := Option.bind_eq_some_iff.mp H
    obtain ⟨t300, A390, H⟩ := H
    try dsimp only at H
    have A39 := Aside0.mk A390
    clear A390
    by_cases c40 : t300 < 0
    ·rw [if_pos c40] at H
     have c40b0 : decide (t300 < 0) = true := decide_eq_true c40
     clear c40
     exact absurd (Option.some.inj H) (by decide)
    ·rw [if_neg c40] at H
     have c40b0 : decide (t300 < 0) = false := decide_eq_false c40
     clear c40
     by_cases c41 : t300 = t297
     rotate_left
     ·rw [if_neg c41] at H
      have c41b0 : (t300 == t297) = false := beq_eq_false_iff_ne.mpr c41
      have c41b1 : (t300 != t297) = true := bne_iff_ne.mpr c41
      exact absurd (Option.some.inj H) (by decide)
     rw [if_pos c41] at H
     have c41b0 : (t300 == t297) = true := beq_iff_eq.mpr c41
     have c41b1 : (t300 != t297) = false := bne_eq_false_iff_eq.mpr c41
     clear c41
     replace H := Option.bind_eq_some_iff.mp H
     obtain ⟨⟨t301, t302, t303, t304, t307⟩, A420, H⟩ := H
     try dsimp only at H
     have A42 := Aside0.mk A420
     clear A420
     replace H := Option.bind_eq_some_iff.mp H
     obtain ⟨⟨t310, t311, t312, t313, t316⟩, A430, H⟩ := H
     try dsimp only at H
     have A43 := Aside0.mk A430
     clear A430
     replace H := Option.bind_eq_some_iff.mp H
     obtain ⟨⟨t319, t320, t321, t322, t325⟩, A440, H⟩ := H
     try dsimp only at H
     have A44 := Aside0.mk A440
     clear A440
     replace H := Option.bind_eq_some_iff.mp H
     obtain ⟨t329, A450, H⟩ := H
     try dsimp only at H
     have A45 := Aside0.mk A450
     clear A450
     by_cases c46 : t329 = true
     rotate_left
     ·replace c46 := Bool.eq_false_iff.mpr c46
      subst c46
      rw [if_neg (by decide)] at H
      exact absurd (Option.some.inj H) (by decide)
     subst c46
     rw [if_pos rfl] at H
     replace H := Option.bind_eq_some_iff.mp H
     obtain ⟨t330, A470, H⟩ := H
     replace H : (if t330 < 0 then (some false) else (if t330 = t297 then (some true) else (some false))) = some true := H
     have A47 := Aside0.mk A470
     clear A470
     by_cases c48 : t330 < 0
     ·rw [if_pos c48] at H
      have c48b0 : decide (t330 < 0) = true := decide_eq_true c48
      clear c48
      exact absurd (Option.some.inj H) (by decide)
     ·rw [if_neg c48] at H
      have c48b0 : decide (t330 < 0) = false := decide_eq_false c48
      clear c48
      by_cases c49 : t330 = t297
      rotate_left
      ·rw [if_neg c49] at H
       have c49b0 : (t330 == t297) = false := beq_eq_false_iff_ne.mpr c49
       have c49b1 : (t330 != t297) = true := bne_iff_ne.mpr c49
       exact absurd (Option.some.inj H) (by decide)
      rw [if_pos c49] at H
      have c49b0 : (t330 == t297) = true := beq_iff_eq.mpr c49
      have c49b1 : (t330 != t297) = false := bne_eq_false_iff_eq.mpr c49
      clear c49
      clear H
      go_enter Try.func9, Try.ntmps9
      try go_wp2_with (first | ((with_reducible refine gate_dst (N := 2) rfl ?_); refine box_event ?hg (N := 2) ?hd (cs := #[.int .i64 a0_0, .int .i64 a0_1, .int .i64 a0_2, .slice A0_3 l0_3.length c0_3, .slice A0_4 l0_4.length c0_4]) (t := 24) ?hr ?_; (case hd => rfl); (case hg => rfl); (case hr => first | (go_simp; done) | (go_simp; rfl)); intro gb207 hg w50 hbox hb; have BK207 := Aside0.mk (hbox); have GW207 := Aside0.mk ((by rw [hg]; exact (below_size HB.out) : w.heap.size ≤ gb207)); have GE207 := Aside0.mk ((by rw [hg]; exact (below_size HB.out) : w.heap.size ≤ gb207)); replace HB := Aside0.mk (below_step HB.out hb); clear hb hbox hg) | ((with_reducible refine gate_dst (N := 3) rfl ?_); refine box_event ?hg (N := 3) ?hd (cs := #[.int .i64 a1_0, .int .i64 a1_1, .int .i64 a1_2, .slice A1_3 l1_3.length c1_3, .slice A1_4 l1_4.length c1_4]) (t := 24) ?hr ?_; (case hd => rfl); (case hg => rfl); (case hr => first | (go_simp; done) | (go_simp; rfl)); intro gb208 hg w51 hbox hb; have BK208 := Aside0.mk (hbox); have GW208 := Aside0.mk ((by rw [hg]; exact (below_size HB.out) : w.heap.size ≤ gb208)); have GE208 := Aside0.mk ((by rw [hg]; exact (below_size HB.out) : w.heap.size ≤ gb208)); replace HB := Aside0.mk (below_step HB.out hb); have NB207_208 := Aside0.mk ((by rw [hg]; exact Nat.ne_of_lt (blk_lt BK207.out) : gb207 ≠ gb208)); have NB208_207 := Aside0.mk ((by rw [hg]; exact Nat.ne_of_gt (blk_lt BK207.out) : gb208 ≠ gb207)); replace BK207 := Aside0.mk (blk_below BK207.out hb); clear hb hbox hg; have hnb52 := NB207_208.out; have hnc52 := NB208_207.out; have hcz53_0 : w51.cell? ⟨gb207, 0, none⟩ = some (.int .i64 a0_0) := (blk_cell BK207.out 0).trans rfl; have hcz53_1 : w51.cell? ⟨gb207, 1, none⟩ = some (.int .i64 a0_1) := (blk_cell BK207.out 1).trans rfl; have hcz53_2 : w51.cell? ⟨gb207, 2, none⟩ = some (.int .i64 a0_2) := (blk_cell BK207.out 2).trans rfl; have hcz53_3 : w51.cell? ⟨gb207, 3, none⟩ = some (.slice A0_3 l0_3.length c0_3) := (blk_cell BK207.out 3).trans rfl; have hcz53_4 : w51.cell? ⟨gb207, 4, none⟩ = some (.slice A0_4 l0_4.length c0_4) := (blk_cell BK207.out 4).trans rfl; have hfz53_0 := blk_frozen BK207.out 0; have hfz53_1 := blk_frozen BK207.out 1; have hfz53_2 := blk_frozen BK207.out 2; have hfz53_3 := blk_frozen BK207.out 3; have hfz53_4 := blk_frozen BK207.out 4) | ((with_reducible refine gate_callee (f := 11) rfl ?_); refine goesL_ (some 16) rfl rfl Try.func11 (by kernel_rfl) rfl #[.agg #[.int .i64 a0_0, .int .i64 a0_1, .int .i64 a0_2, .slice A0_3 l0_3.length c0_3, .slice A0_4 l0_4.length c0_4], .int .i64 1048576] rfl (by (try simp only [List.map_toArray, List.map_cons, List.map_nil]); first | done | rfl) ?_; (with_reducible refine (laws_szPattern.calls a0_0 a0_1 a0_2 _ _ l0_3 _ _ l0_4 1048576 t209 _ ?side1 ?side2 ?side3 ?side4 A3.out).mono ?_); (case side1 => exact (Kd.C_below HR0_3.out HB.out)); (case side2 => exact HC0_3.out); (case side3 => exact (Kd.C_below HR0_4.out HB.out)); (case side4 => exact HC0_4.out); rintro e w54 ⟨rfl, hb⟩; refine ⟨_, rfl, ?_⟩; replace BK207 := Aside0.mk (blk_below BK207.out hb); replace BK208 := Aside0.mk (blk_below BK208.out hb); replace HB := Aside0.mk (below_step HB.out hb); (try clear hb); (try clear hb2); (try clear hk); (try clear hi); have hcz55_0 : w54.cell? ⟨gb208, 0, none⟩ = some (.int .i64 a1_0) := (blk_cell BK208.out 0).trans rfl; have hcz55_1 : w54.cell? ⟨gb208, 1, none⟩ = some (.int .i64 a1_1) := (blk_cell BK208.out 1).trans rfl; have hcz55_2 : w54.cell? ⟨gb208, 2, none⟩ = some (.int .i64 a1_2) := (blk_cell BK208.out 2).trans rfl; have hcz55_3 : w54.cell? ⟨gb208, 3, none⟩ = some (.slice A1_3 l1_3.length c1_3) := (blk_cell BK208.out 3).trans rfl; have hcz55_4 : w54.cell? ⟨gb208, 4, none⟩ = some (.slice A1_4 l1_4.length c1_4) := (blk_cell BK208.out 4).trans rfl; have hfz55_0 := blk_frozen BK208.out 0; have hfz55_1 := blk_frozen BK208.out 1; have hfz55_2 := blk_frozen BK208.out 2; have hfz55_3 := blk_frozen BK208.out 3; have hfz55_4 := blk_frozen BK208.out 4) | ((with_reducible refine gate_callee (f := 11) rfl ?_); refine goesL_ (some 21) rfl rfl Try.func11 (by kernel_rfl) rfl #[.agg #[.int .i64 a1_0, .int .i64 a1_1, .int .i64 a1_2, .slice A1_3 l1_3.length c1_3, .slice A1_4 l1_4.length c1_4], .int .i64 t209] rfl (by (try simp only [List.map_toArray, List.map_cons, List.map_nil]); first | done | rfl) ?_; (with_reducible refine (laws_szPattern.calls a1_0 a1_1 a1_2 _ _ l1_3 _ _ l1_4 t209 t210 _ ?side1 ?side2 ?side3 ?side4 A10.out).mono ?_); (case side1 => exact (Kd.C_below HR1_3.out HB.out)); (case side2 => exact HC1_3.out); (case side3 => exact (Kd.C_below HR1_4.out HB.out)); (case side4 => exact HC1_4.out); rintro e w56 ⟨rfl, hb⟩; refine ⟨_, rfl, ?_⟩; replace BK207 := Aside0.mk (blk_below BK207.out hb); replace BK208 := Aside0.mk (blk_below BK208.out hb); replace HB := Aside0.mk (below_step HB.out hb); (try clear hb); (try clear hb2); (try clear hk); (try clear hi)))
      replace BK207 := Aside0.mk (blk_drew BK207.out)
      replace BK208 := Aside0.mk (blk_drew BK208.out)
      replace HB := Aside0.mk (below_drew1 HB.out)
      refine start_ (n := 7) (S := fun w' => w'.cell? ⟨gb207, 0, none⟩ = some (.int .i64 a0_0) ∧ w'.cell? ⟨gb207, 1, none⟩ = some (.int .i64 a0_1) ∧ w'.cell? ⟨gb207, 2, none⟩ = some (.int .i64 a0_2) ∧ w'.cell? ⟨gb207, 3, none⟩ = some (.slice A0_3 l0_3.length c0_3) ∧ w'.cell? ⟨gb207, 4, none⟩ = some (.slice A0_4 l0_4.length c0_4) ∧ w'.cell? ⟨gb208, 0, none⟩ = some (.int .i64 a1_0) ∧ w'.cell? ⟨gb208, 1, none⟩ = some (.int .i64 a1_1) ∧ w'.cell? ⟨gb208, 2, none⟩ = some (.int .i64 a1_2) ∧ w'.cell? ⟨gb208, 3, none⟩ = some (.slice A1_3 l1_3.length c1_3) ∧ w'.cell? ⟨gb208, 4, none⟩ = some (.slice A1_4 l1_4.length c1_4)) (ds := []) #[false, false, false, false, false, false, false] (by kernel_rfl) rfl rfl ⟨(blk_cell BK207.out 0).trans rfl, (blk_cell BK207.out 1).trans rfl, (blk_cell BK207.out 2).trans rfl, (blk_cell BK207.out 3).trans rfl, (blk_cell BK207.out 4).trans rfl, (blk_cell BK208.out 0).trans rfl, (blk_cell BK208.out 1).trans rfl, (blk_cell BK208.out 2).trans rfl, (blk_cell BK208.out 3).trans rfl, (blk_cell BK208.out 4).trans rfl⟩ (fun hHeld => ?_)
      generalize w56.drew = w57 at BK207 BK208 HB hHeld ⊢
      refine take_ (i := 0) (N := some 24) (v := ?_) (a' := ?_) #[true, false, false, false, false, false, false] rfl rfl (by kernel_rfl) (fun _ _ _ h => h) (Or.inl ⟨by rfl, ?_⟩) hHeld ?_ ?_
      rotate_left
      ·rintro w' ⟨s0, s1, s2, s3, s4, s5, s6, s7, s8, s9⟩
       go_simp
       with_reducible rfl
      rotate_left
      ·simp only [Act.put, List.setIfInBounds_toArray, List.set_cons_zero, List.set_cons_succ, i64_w, i32_w]
       rfl
      refine take_ (i := 2) (N := some 26) (v := ?_) (a' := ?_) #[true, false, true, false, false, false, false] rfl rfl (by kernel_rfl) (fun _ _ _ h => h) (Or.inl ⟨by rfl, ?_⟩) hHeld ?_ ?_
      rotate_left
      ·rintro w' ⟨s0, s1, s2, s3, s4, s5, s6, s7, s8, s9⟩
       go_simp
       with_reducible rfl
      rotate_left
      ·simp only [Act.put, List.setIfInBounds_toArray, List.set_cons_zero, List.set_cons_succ, i64_w, i32_w]
       rfl
      refine join_ (σ := Value × Value × Value × Value × Value × Value × Nat) 1 #[true, true, true, true, true, true, false] (fun s_ => [(25, .agg #[.int .i64 t211, .int .i64 t212, .int .i64 t213, s_.1, s_.2.1]), (27, .agg #[.int .i64 t220, .int .i64 t221, .int .i64 t222, s_.2.2.1, s_.2.2.2.1]), (28, .agg #[.int .i64 t229, .int .i64 t230, .int .i64 t231, s_.2.2.2.2.1, s_.2.2.2.2.2.1]), (6, .pointer (some ⟨s_.2.2.2.2.2.2, 0, none⟩))]) (fun s_ w' => (w'.cell? ⟨gb207, 0, none⟩ = some (.int .i64 a0_0) ∧ w'.cell? ⟨gb207, 1, none⟩ = some (.int .i64 a0_1) ∧ w'.cell? ⟨gb207, 2, none⟩ = some (.int .i64 a0_2) ∧ w'.cell? ⟨gb207, 3, none⟩ = some (.slice A0_3 l0_3.length c0_3) ∧ w'.cell? ⟨gb207, 4, none⟩ = some (.slice A0_4 l0_4.length c0_4) ∧ w'.cell? ⟨gb208, 0, none⟩ = some (.int .i64 a1_0) ∧ w'.cell? ⟨gb208, 1, none⟩ = some (.int .i64 a1_1) ∧ w'.cell? ⟨gb208, 2, none⟩ = some (.int .i64 a1_2) ∧ w'.cell? ⟨gb208, 3, none⟩ = some (.slice A1_3 l1_3.length c1_3) ∧ w'.cell? ⟨gb208, 4, none⟩ = some (.slice A1_4 l1_4.length c1_4)) ∧ (Kd.R (Kd.int .i64) 3 w' w.heap.size (fun k_ => some k_ ≠ (s_.2.1 : Value).ownBlock ∧ some k_ ≠ (s_.2.2.1 : Value).ownBlock ∧ some k_ ≠ (s_.2.2.2.1 : Value).ownBlock ∧ some k_ ≠ (s_.2.2.2.2.1 : Value).ownBlock ∧ some k_ ≠ (s_.2.2.2.2.2.1 : Value).ownBlock) s_.1 t214) ∧ (Kd.R (Kd.int .i64) 3 w' w.heap.size (fun k_ => some k_ ≠ (s_.1 : Value).ownBlock ∧ some k_ ≠ (s_.2.2.1 : Value).ownBlock ∧ some k_ ≠ (s_.2.2.2.1 : Value).ownBlock ∧ some k_ ≠ (s_.2.2.2.2.1 : Value).ownBlock ∧ some k_ ≠ (s_.2.2.2.2.2.1 : Value).ownBlock) s_.2.1 t217) ∧ (Kd.R (Kd.int .i64) 3 w' w.heap.size (fun k_ => some k_ ≠ (s_.1 : Value).ownBlock ∧ some k_ ≠ (s_.2.1 : Value).ownBlock ∧ some k_ ≠ (s_.2.2.2.1 : Value).ownBlock ∧ some k_ ≠ (s_.2.2.2.2.1 : Value).ownBlock ∧ some k_ ≠ (s_.2.2.2.2.2.1 : Value).ownBlock) s_.2.2.1 t223) ∧ (Kd.R (Kd.int .i64) 3 w' w.heap.size (fun k_ => some k_ ≠ (s_.1 : Value).ownBlock ∧ some k_ ≠ (s_.2.1 : Value).ownBlock ∧ some k_ ≠ (s_.2.2.1 : Value).ownBlock ∧ some k_ ≠ (s_.2.2.2.2.1 : Value).ownBlock ∧ some k_ ≠ (s_.2.2.2.2.2.1 : Value).ownBlock) s_.2.2.2.1 t226) ∧ (Kd.R (Kd.int .i64) 3 w' w.heap.size (fun k_ => some k_ ≠ (s_.1 : Value).ownBlock ∧ some k_ ≠ (s_.2.1 : Value).ownBlock ∧ some k_ ≠ (s_.2.2.1 : Value).ownBlock ∧ some k_ ≠ (s_.2.2.2.1 : Value).ownBlock ∧ some k_ ≠ (s_.2.2.2.2.2.1 : Value).ownBlock) s_.2.2.2.2.1 t232) ∧ (Kd.R (Kd.int .i64) 3 w' w.heap.size (fun k_ => some k_ ≠ (s_.1 : Value).ownBlock ∧ some k_ ≠ (s_.2.1 : Value).ownBlock ∧ some k_ ≠ (s_.2.2.1 : Value).ownBlock ∧ some k_ ≠ (s_.2.2.2.1 : Value).ownBlock ∧ some k_ ≠ (s_.2.2.2.2.1 : Value).ownBlock) s_.2.2.2.2.2.1 t235) ∧ (w'.heap[gb207]? = some (.cells #[.int .i64 a0_0, .int .i64 a0_1, .int .i64 a0_2, .slice A0_3 l0_3.length c0_3, .slice A0_4 l0_4.length c0_4] 24 (0, 0))) ∧ (w'.heap[gb208]? = some (.cells #[.int .i64 a1_0, .int .i64 a1_1, .int .i64 a1_2, .slice A1_3 l1_3.length c1_3, .slice A1_4 l1_4.length c1_4] 24 (0, 0))) ∧ (w'.heap[s_.2.2.2.2.2.2]? = some (.cells #[.int .i64 0, .int .i64 0, .int .i64 0, .slice none 0 0, .slice none 0 0] 27 (0, 0))) ∧ (w.heap.size ≤ s_.2.2.2.2.2.2) ∧ (w.heap.size ≤ s_.2.2.2.2.2.2) ∧ (gb207 ≠ s_.2.2.2.2.2.2) ∧ (s_.2.2.2.2.2.2 ≠ gb207) ∧ (gb208 ≠ s_.2.2.2.2.2.2) ∧ (s_.2.2.2.2.2.2 ≠ gb208) ∧ (Below w.heap.size w w')) ?_ ?_
      rotate_left
      ·intro hCont
       refine two_ (i := 1) (j := 5) (Ni := some 25) (Nj := some 6) #[true, true, true, false, false, false, false] #[true, false, true, false, false, true, false] rfl rfl rfl rfl (by kernel_rfl) (by decide) (by decide) (fun K hK => ?_) (fun K hK => ?_)
       ·skip
        refine goes_ Try.func13 (by kernel_rfl) rfl #[.agg #[.int .i64 a0_0, .int .i64 a0_1, .int .i64 a0_2, .slice A0_3 l0_3.length c0_3, .slice A0_4 l0_4.length c0_4]] (by rfl) rfl rfl (by (try simp only [List.map_toArray, List.map_cons, List.map_nil]); first | done | rfl) ?_
        with_reducible refine (laws_toPattern.calls k a0_0 a0_1 a0_2 _ _ l0_3 _ _ l0_4 t211 t212 t213 t214 t217 _ ?side1 ?side2 ?side3 ?side4 A19.out).mono ?_
        (case side1 => exact (Kd.C_below HR0_3.out HB.out))
        (case side2 => exact HC0_3.out)
        (case side3 => exact (Kd.C_below HR0_4.out HB.out))
        (case side4 => exact HC0_4.out)
        rintro e w58 ⟨v215, v218, rfl, ho0, ho1, hb⟩
        refine ⟨_, rfl, ?_⟩
        have HO216 := Aside0.mk (Kd.R_lower ho0 (below_size HB.out))
        have HO219 := Aside0.mk (Kd.R_lower ho1 (below_size HB.out))
        replace BK207 := Aside0.mk (blk_below BK207.out hb)
        replace BK208 := Aside0.mk (blk_below BK208.out hb)
        replace HB := Aside0.mk (below_step HB.out hb)
        (try clear hb)
        (try clear hb2)
        (try clear hk)
        (try clear hi)
        (try clear ho0)
        (try clear ho1)
        refine hK.out _ _ ⟨(blk_cell BK207.out 0).trans rfl, (blk_cell BK207.out 1).trans rfl, (blk_cell BK207.out 2).trans rfl, (blk_cell BK207.out 3).trans rfl, (blk_cell BK207.out 4).trans rfl, (blk_cell BK208.out 0).trans rfl, (blk_cell BK208.out 1).trans rfl, (blk_cell BK208.out 2).trans rfl, (blk_cell BK208.out 3).trans rfl, (blk_cell BK208.out 4).trans rfl⟩ (fun hHeld => ?_)
        clear hK K
        refine norm_ (a' := ?_) ?_ ?_
        rotate_left
        ·show Act.put _ (some 25) _ = _
         simp only [Act.put, List.setIfInBounds_toArray, List.set_cons_zero, List.set_cons_succ, i64_w, i32_w]
         rfl
        refine two_ (i := 3) (j := 5) (Ni := some 27) (Nj := some 6) #[true, true, true, true, false, false, false] #[true, true, true, false, false, true, false] rfl rfl rfl rfl (by kernel_rfl) (by decide) (by decide) (fun K hK => ?_) (fun K hK => ?_)
        ·skip
         refine goes_ Try.func13 (by kernel_rfl) rfl #[.agg #[.int .i64 a1_0, .int .i64 a1_1, .int .i64 a1_2, .slice A1_3 l1_3.length c1_3, .slice A1_4 l1_4.length c1_4]] (by rfl) rfl rfl (by (try simp only [List.map_toArray, List.map_cons, List.map_nil]); first | done | rfl) ?_
         with_reducible refine (laws_toPattern.calls k a1_0 a1_1 a1_2 _ _ l1_3 _ _ l1_4 t220 t221 t222 t223 t226 _ ?side1 ?side2 ?side3 ?side4 A20.out).mono ?_
         (case side1 => exact (Kd.C_below HR1_3.out HB.out))
         (case side2 => exact HC1_3.out)
         (case side3 => exact (Kd.C_below HR1_4.out HB.out))
         (case side4 => exact HC1_4.out)
         rintro e w59 ⟨v224, v227, rfl, ho0, ho1, hb⟩
         refine ⟨_, rfl, ?_⟩
         have HO225 := Aside0.mk (Kd.R_lower (Kd.R_new' (Kd.R_new' ho0 (Kd.R_lt HO216.out)) (Kd.R_lt HO219.out)) (below_size HB.out))
         have HO228 := Aside0.mk (Kd.R_lower (Kd.R_new' (Kd.R_new' ho1 (Kd.R_lt HO216.out)) (Kd.R_lt HO219.out)) (below_size HB.out))
         replace HO216 := Aside0.mk (Kd.R_mono (Kd.R_told (Kd.R_told (Kd.R_old HO216.out hb) (Kd.R_base ho0)) (Kd.R_base ho1)) (fun _ h_ => h_.1))
         replace HO219 := Aside0.mk (Kd.R_mono (Kd.R_told (Kd.R_told (Kd.R_old HO219.out hb) (Kd.R_base ho0)) (Kd.R_base ho1)) (fun _ h_ => h_.1))
         replace BK207 := Aside0.mk (blk_below BK207.out hb)
         replace BK208 := Aside0.mk (blk_below BK208.out hb)
         replace HB := Aside0.mk (below_step HB.out hb)
         (try clear hb)
         (try clear hb2)
         (try clear hk)
         (try clear hi)
         (try clear ho0)
         (try clear ho1)
         obtain ⟨Ao60, co60, eo60⟩ := Kd.R_slice HO216.out
         (first | subst eo60 | (injection eo60 with f1_ f2_ f3_; have f4_ := f1_.symm; have f5_ := f3_.symm; clear f1_ f2_ f3_; subst f4_; subst f5_))
         obtain ⟨Ao61, co61, eo61⟩ := Kd.R_slice HO219.out
         (first | subst eo61 | (injection eo61 with f1_ f2_ f3_; have f4_ := f1_.symm; have f5_ := f3_.symm; clear f1_ f2_ f3_; subst f4_; subst f5_))
         obtain ⟨Ao62, co62, eo62⟩ := Kd.R_slice HO225.out
         (first | subst eo62 | (injection eo62 with f1_ f2_ f3_; have f4_ := f1_.symm; have f5_ := f3_.symm; clear f1_ f2_ f3_; subst f4_; subst f5_))
         obtain ⟨Ao63, co63, eo63⟩ := Kd.R_slice HO228.out
         (first | subst eo63 | (injection eo63 with f1_ f2_ f3_; have f4_ := f1_.symm; have f5_ := f3_.symm; clear f1_ f2_ f3_; subst f4_; subst f5_))
         refine hK.out _ _ ⟨(blk_cell BK207.out 0).trans rfl, (blk_cell BK207.out 1).trans rfl, (blk_cell BK207.out 2).trans rfl, (blk_cell BK207.out 3).trans rfl, (blk_cell BK207.out 4).trans rfl, (blk_cell BK208.out 0).trans rfl, (blk_cell BK208.out 1).trans rfl, (blk_cell BK208.out 2).trans rfl, (blk_cell BK208.out 3).trans rfl, (blk_cell BK208.out 4).trans rfl⟩ (fun hHeld => ?_)
         clear hK K
         refine norm_ (a' := ?_) ?_ ?_
         rotate_left
         ·show Act.put _ (some 27) _ = _
          simp only [Act.put, List.setIfInBounds_toArray, List.set_cons_zero, List.set_cons_succ, i64_w, i32_w]
          rfl
         refine two_ (i := 4) (j := 5) (Ni := some 28) (Nj := some 6) #[true, true, true, true, true, false, false] #[true, true, true, true, false, true, false] rfl rfl rfl rfl (by kernel_rfl) (by decide) (by decide) (fun K hK => ?_) (fun K hK => ?_)
         ·skip
          refine goes_ Try.func30 (by kernel_rfl) rfl #[.agg #[.int .i64 t211, .int .i64 t212, .int .i64 t213, .slice Ao60 t214.length co60, .slice Ao61 t217.length co61], .agg #[.int .i64 t220, .int .i64 t221, .int .i64 t222, .slice Ao62 t223.length co62, .slice Ao63 t226.length co63]] (by rfl) rfl rfl (by (try simp only [List.map_toArray, List.map_cons, List.map_nil]); first | done | rfl) ?_
          with_reducible refine (spec_Both.calls k t211 t212 t213 _ _ t214 _ _ t217 t220 t221 t222 _ _ t223 _ _ t226 t229 t230 t231 t232 t235 _ ?side1 ?side2 ?side3 ?side4 ?side5 ?side6 ?side7 ?side8 A21.out).mono ?_
          (case side1 => exact (Kd.R_reads' HO216.out).2.2)
          (case side2 => exact (Kd.R_reads' HO216.out).2.1)
          (case side3 => exact (Kd.R_reads' HO219.out).2.2)
          (case side4 => exact (Kd.R_reads' HO219.out).2.1)
          (case side5 => exact (Kd.R_reads' HO225.out).2.2)
          (case side6 => exact (Kd.R_reads' HO225.out).2.1)
          (case side7 => exact (Kd.R_reads' HO228.out).2.2)
          (case side8 => exact (Kd.R_reads' HO228.out).2.1)
          rintro e w64 ⟨v233, v236, rfl, ho0, ho1, hb⟩
          refine ⟨_, rfl, ?_⟩
          have HO234 := Aside0.mk (Kd.R_lower (Kd.R_new' (Kd.R_new' (Kd.R_new' (Kd.R_new' ho0 (Kd.R_lt HO216.out)) (Kd.R_lt HO219.out)) (Kd.R_lt HO225.out)) (Kd.R_lt HO228.out)) (below_size HB.out))
          have HO237 := Aside0.mk (Kd.R_lower (Kd.R_new' (Kd.R_new' (Kd.R_new' (Kd.R_new' ho1 (Kd.R_lt HO216.out)) (Kd.R_lt HO219.out)) (Kd.R_lt HO225.out)) (Kd.R_lt HO228.out)) (below_size HB.out))
          replace HO216 := Aside0.mk (Kd.R_mono (Kd.R_told (Kd.R_told (Kd.R_old HO216.out hb) (Kd.R_base ho0)) (Kd.R_base ho1)) (fun _ h_ => h_.1))
          replace HO219 := Aside0.mk (Kd.R_mono (Kd.R_told (Kd.R_told (Kd.R_old HO219.out hb) (Kd.R_base ho0)) (Kd.R_base ho1)) (fun _ h_ => h_.1))
          replace HO225 := Aside0.mk (Kd.R_mono (Kd.R_told (Kd.R_told (Kd.R_old HO225.out hb) (Kd.R_base ho0)) (Kd.R_base ho1)) (fun _ h_ => h_.1))
          replace HO228 := Aside0.mk (Kd.R_mono (Kd.R_told (Kd.R_told (Kd.R_old HO228.out hb) (Kd.R_base ho0)) (Kd.R_base ho1)) (fun _ h_ => h_.1))
          replace BK207 := Aside0.mk (blk_below BK207.out hb)
          replace BK208 := Aside0.mk (blk_below BK208.out hb)
          replace HB := Aside0.mk (below_step HB.out hb)
          (try clear hb)
          (try clear hb2)
          (try clear hk)
          (try clear hi)
          (try clear ho0)
          (try clear ho1)
          refine hK.out _ _ ⟨(blk_cell BK207.out 0).trans rfl, (blk_cell BK207.out 1).trans rfl, (blk_cell BK207.out 2).trans rfl, (blk_cell BK207.out 3).trans rfl, (blk_cell BK207.out 4).trans rfl, (blk_cell BK208.out 0).trans rfl, (blk_cell BK208.out 1).trans rfl, (blk_cell BK208.out 2).trans rfl, (blk_cell BK208.out 3).trans rfl, (blk_cell BK208.out 4).trans rfl⟩ (fun hHeld => ?_)
          clear hK K
          refine norm_ (a' := ?_) ?_ ?_
          rotate_left
          ·show Act.put _ (some 28) _ = _
           simp only [Act.put, List.setIfInBounds_toArray, List.set_cons_zero, List.set_cons_succ, i64_w, i32_w]
           rfl
          refine one_ (i := 5) (N := some 6) #[true, true, true, true, true, true, false] rfl rfl (by kernel_rfl) (by decide) (fun K hK => ?_)
          refine box_step ?hg (N := 6) ?hd (cs := #[.int .i64 0, .int .i64 0, .int .i64 0, .slice none 0 0, .slice none 0 0]) (t := 27) ?hr ?_; (case hd => rfl); (case hg => rfl); (case hr => first | (go_simp; done) | (go_simp; rfl))
          intro gb238 hg w65 hbox hb
          replace HO216 := Aside0.mk (Kd.R_below HO216.out hb)
          replace HO219 := Aside0.mk (Kd.R_below HO219.out hb)
          replace HO225 := Aside0.mk (Kd.R_below HO225.out hb)
          replace HO228 := Aside0.mk (Kd.R_below HO228.out hb)
          replace HO234 := Aside0.mk (Kd.R_below HO234.out hb)
          replace HO237 := Aside0.mk (Kd.R_below HO237.out hb)
          have BK238 := Aside0.mk (hbox)
          have GW238 := Aside0.mk ((by rw [hg]; exact (below_size HB.out) : w.heap.size ≤ gb238))
          have GE238 := Aside0.mk ((by rw [hg]; exact (below_size HB.out) : w.heap.size ≤ gb238))
          replace HB := Aside0.mk (below_step HB.out hb)
          have NB207_238 := Aside0.mk ((by rw [hg]; exact Nat.ne_of_lt (blk_lt BK207.out) : gb207 ≠ gb238))
          have NB238_207 := Aside0.mk ((by rw [hg]; exact Nat.ne_of_gt (blk_lt BK207.out) : gb238 ≠ gb207))
          replace BK207 := Aside0.mk (blk_below BK207.out hb)
          have NB208_238 := Aside0.mk ((by rw [hg]; exact Nat.ne_of_lt (blk_lt BK208.out) : gb208 ≠ gb238))
          have NB238_208 := Aside0.mk ((by rw [hg]; exact Nat.ne_of_gt (blk_lt BK208.out) : gb238 ≠ gb208))
          replace BK208 := Aside0.mk (blk_below BK208.out hb)
          clear hb hbox hg
          refine hK.out _ _ ⟨(blk_cell BK207.out 0).trans rfl, (blk_cell BK207.out 1).trans rfl, (blk_cell BK207.out 2).trans rfl, (blk_cell BK207.out 3).trans rfl, (blk_cell BK207.out 4).trans rfl, (blk_cell BK208.out 0).trans rfl, (blk_cell BK208.out 1).trans rfl, (blk_cell BK208.out 2).trans rfl, (blk_cell BK208.out 3).trans rfl, (blk_cell BK208.out 4).trans rfl⟩ (fun hHeld => ?_)
          clear hK K
          refine norm_ (a' := ?_) ?_ ?_
          rotate_left
          ·show Act.put _ (some 6) _ = _
           simp only [Act.put, List.setIfInBounds_toArray, List.set_cons_zero, List.set_cons_succ, i64_w, i32_w]
           rfl
          exact norm_ (by simp only [putAll, Act.put, List.setIfInBounds_toArray, List.set_cons_zero, List.set_cons_succ]) (hCont (.slice Ao60 t214.length co60, .slice Ao61 t217.length co61, .slice Ao62 t223.length co62, .slice Ao63 t226.length co63, v233, v236, gb238) _ ⟨hHeld, (Kd.R_mono HO216.out (fun _ => pmBothx8_0)), (Kd.R_mono HO219.out (fun _ => pmBothx8_0)), (Kd.R_mono HO225.out (fun _ => pmBothx8_1)), (Kd.R_mono HO228.out (fun _ => pmBothx8_1)), (Kd.R_mono HO234.out (fun _ => pmBothx8_2)), (Kd.R_mono HO237.out (fun _ => pmBothx8_2)), BK207.out, BK208.out, BK238.out, GW238.out, GE238.out, NB207_238.out, NB238_207.out, NB208_238.out, NB238_208.out, HB.out⟩)
         ·skip
          refine box_step ?hg (N := 6) ?hd (cs := #[.int .i64 0, .int .i64 0, .int .i64 0, .slice none 0 0, .slice none 0 0]) (t := 27) ?hr ?_; (case hd => rfl); (case hg => rfl); (case hr => first | (go_simp; done) | (go_simp; rfl))
          intro gb238 hg w60 hbox hb
          replace HO216 := Aside0.mk (Kd.R_below HO216.out hb)
          replace HO219 := Aside0.mk (Kd.R_below HO219.out hb)
          replace HO225 := Aside0.mk (Kd.R_below HO225.out hb)
          replace HO228 := Aside0.mk (Kd.R_below HO228.out hb)
          have BK238 := Aside0.mk (hbox)
          have GW238 := Aside0.mk ((by rw [hg]; exact (below_size HB.out) : w.heap.size ≤ gb238))
          have GE238 := Aside0.mk ((by rw [hg]; exact (below_size HB.out) : w.heap.size ≤ gb238))
          replace HB := Aside0.mk (below_step HB.out hb)
          have NB207_238 := Aside0.mk ((by rw [hg]; exact Nat.ne_of_lt (blk_lt BK207.out) : gb207 ≠ gb238))
          have NB238_207 := Aside0.mk ((by rw [hg]; exact Nat.ne_of_gt (blk_lt BK207.out) : gb238 ≠ gb207))
          replace BK207 := Aside0.mk (blk_below BK207.out hb)
          have NB208_238 := Aside0.mk ((by rw [hg]; exact Nat.ne_of_lt (blk_lt BK208.out) : gb208 ≠ gb238))
          have NB238_208 := Aside0.mk ((by rw [hg]; exact Nat.ne_of_gt (blk_lt BK208.out) : gb238 ≠ gb208))
          replace BK208 := Aside0.mk (blk_below BK208.out hb)
          clear hb hbox hg
          obtain ⟨Ao61, co61, eo61⟩ := Kd.R_slice HO216.out
          (first | subst eo61 | (injection eo61 with f1_ f2_ f3_; have f4_ := f1_.symm; have f5_ := f3_.symm; clear f1_ f2_ f3_; subst f4_; subst f5_))
          obtain ⟨Ao62, co62, eo62⟩ := Kd.R_slice HO219.out
          (first | subst eo62 | (injection eo62 with f1_ f2_ f3_; have f4_ := f1_.symm; have f5_ := f3_.symm; clear f1_ f2_ f3_; subst f4_; subst f5_))
          obtain ⟨Ao63, co63, eo63⟩ := Kd.R_slice HO225.out
          (first | subst eo63 | (injection eo63 with f1_ f2_ f3_; have f4_ := f1_.symm; have f5_ := f3_.symm; clear f1_ f2_ f3_; subst f4_; subst f5_))
          obtain ⟨Ao64, co64, eo64⟩ := Kd.R_slice HO228.out
          (first | subst eo64 | (injection eo64 with f1_ f2_ f3_; have f4_ := f1_.symm; have f5_ := f3_.symm; clear f1_ f2_ f3_; subst f4_; subst f5_))
          refine hK.out _ _ ⟨(blk_cell BK207.out 0).trans rfl, (blk_cell BK207.out 1).trans rfl, (blk_cell BK207.out 2).trans rfl, (blk_cell BK207.out 3).trans rfl, (blk_cell BK207.out 4).trans rfl, (blk_cell BK208.out 0).trans rfl, (blk_cell BK208.out 1).trans rfl, (blk_cell BK208.out 2).trans rfl, (blk_cell BK208.out 3).trans rfl, (blk_cell BK208.out 4).trans rfl⟩ (fun hHeld => ?_)
          clear hK K
          refine norm_ (a' := ?_) ?_ ?_
          rotate_left
          ·show Act.put _ (some 6) _ = _
           simp only [Act.put, List.setIfInBounds_toArray, List.set_cons_zero, List.set_cons_succ, i64_w, i32_w]
           rfl
          refine one_ (i := 4) (N := some 28) #[true, true, true, true, true, true, false] rfl rfl (by kernel_rfl) (by decide) (fun K hK => ?_)
          refine goes_ Try.func30 (by kernel_rfl) rfl #[.agg #[.int .i64 t211, .int .i64 t212, .int .i64 t213, .slice Ao61 t214.length co61, .slice Ao62 t217.length co62], .agg #[.int .i64 t220, .int .i64 t221, .int .i64 t222, .slice Ao63 t223.length co63, .slice Ao64 t226.length co64]] (by rfl) rfl rfl (by (try simp only [List.map_toArray, List.map_cons, List.map_nil]); first | done | rfl) ?_
          with_reducible refine (spec_Both.calls k t211 t212 t213 _ _ t214 _ _ t217 t220 t221 t222 _ _ t223 _ _ t226 t229 t230 t231 t232 t235 _ ?side1 ?side2 ?side3 ?side4 ?side5 ?side6 ?side7 ?side8 A21.out).mono ?_
          (case side1 => exact (Kd.R_reads' HO216.out).2.2)
          (case side2 => exact (Kd.R_reads' HO216.out).2.1)
          (case side3 => exact (Kd.R_reads' HO219.out).2.2)
          (case side4 => exact (Kd.R_reads' HO219.out).2.1)
          (case side5 => exact (Kd.R_reads' HO225.out).2.2)
          (case side6 => exact (Kd.R_reads' HO225.out).2.1)
          (case side7 => exact (Kd.R_reads' HO228.out).2.2)
          (case side8 => exact (Kd.R_reads' HO228.out).2.1)
          rintro e w65 ⟨v233, v236, rfl, ho0, ho1, hb⟩
          refine ⟨_, rfl, ?_⟩
          have HO234 := Aside0.mk (Kd.R_lower (Kd.R_new' (Kd.R_new' (Kd.R_new' (Kd.R_new' ho0 (Kd.R_lt HO216.out)) (Kd.R_lt HO219.out)) (Kd.R_lt HO225.out)) (Kd.R_lt HO228.out)) (below_size HB.out))
          have HO237 := Aside0.mk (Kd.R_lower (Kd.R_new' (Kd.R_new' (Kd.R_new' (Kd.R_new' ho1 (Kd.R_lt HO216.out)) (Kd.R_lt HO219.out)) (Kd.R_lt HO225.out)) (Kd.R_lt HO228.out)) (below_size HB.out))
          replace HO216 := Aside0.mk (Kd.R_mono (Kd.R_told (Kd.R_told (Kd.R_old HO216.out hb) (Kd.R_base ho0)) (Kd.R_base ho1)) (fun _ h_ => h_.1))
          replace HO219 := Aside0.mk (Kd.R_mono (Kd.R_told (Kd.R_told (Kd.R_old HO219.out hb) (Kd.R_base ho0)) (Kd.R_base ho1)) (fun _ h_ => h_.1))
          replace HO225 := Aside0.mk (Kd.R_mono (Kd.R_told (Kd.R_told (Kd.R_old HO225.out hb) (Kd.R_base ho0)) (Kd.R_base ho1)) (fun _ h_ => h_.1))
          replace HO228 := Aside0.mk (Kd.R_mono (Kd.R_told (Kd.R_told (Kd.R_old HO228.out hb) (Kd.R_base ho0)) (Kd.R_base ho1)) (fun _ h_ => h_.1))
          replace BK207 := Aside0.mk (blk_below BK207.out hb)
          replace BK208 := Aside0.mk (blk_below BK208.out hb)
          replace BK238 := Aside0.mk (blk_below BK238.out hb)
          replace HB := Aside0.mk (below_step HB.out hb)
          (try clear hb)
          (try clear hb2)
          (try clear hk)
          (try clear hi)
          (try clear ho0)
          (try clear ho1)
          refine hK.out _ _ ⟨(blk_cell BK207.out 0).trans rfl, (blk_cell BK207.out 1).trans rfl, (blk_cell BK207.out 2).trans rfl, (blk_cell BK207.out 3).trans rfl, (blk_cell BK207.out 4).trans rfl, (blk_cell BK208.out 0).trans rfl, (blk_cell BK208.out 1).trans rfl, (blk_cell BK208.out 2).trans rfl, (blk_cell BK208.out 3).trans rfl, (blk_cell BK208.out 4).trans rfl⟩ (fun hHeld => ?_)
          clear hK K
          refine norm_ (a' := ?_) ?_ ?_
          rotate_left
          ·show Act.put _ (some 28) _ = _
           simp only [Act.put, List.setIfInBounds_toArray, List.set_cons_zero, List.set_cons_succ, i64_w, i32_w]
           rfl
          exact norm_ (by simp only [putAll, Act.put, List.setIfInBounds_toArray, List.set_cons_zero, List.set_cons_succ]) (hCont (.slice Ao61 t214.length co61, .slice Ao62 t217.length co62, .slice Ao63 t223.length co63, .slice Ao64 t226.length co64, v233, v236, gb238) _ ⟨hHeld, (Kd.R_mono HO216.out (fun _ => pmBothx8_0)), (Kd.R_mono HO219.out (fun _ => pmBothx8_0)), (Kd.R_mono HO225.out (fun _ => pmBothx8_1)), (Kd.R_mono HO228.out (fun _ => pmBothx8_1)), (Kd.R_mono HO234.out (fun _ => pmBothx8_2)), (Kd.R_mono HO237.out (fun _ => pmBothx8_2)), BK207.out, BK208.out, BK238.out, GW238.out, GE238.out, NB207_238.out, NB238_207.out, NB208_238.out, NB238_208.out, HB.out⟩)
        ·skip
         refine box_step ?hg (N := 6) ?hd (cs := #[.int .i64 0, .int .i64 0, .int .i64 0, .slice none 0 0, .slice none 0 0]) (t := 27) ?hr ?_; (case hd => rfl); (case hg => rfl); (case hr => first | (go_simp; done) | (go_simp; rfl))
         intro gb238 hg w59 hbox hb
         replace HO216 := Aside0.mk (Kd.R_below HO216.out hb)
         replace HO219 := Aside0.mk (Kd.R_below HO219.out hb)
         have BK238 := Aside0.mk (hbox)
         have GW238 := Aside0.mk ((by rw [hg]; exact (below_size HB.out) : w.heap.size ≤ gb238))
         have GE238 := Aside0.mk ((by rw [hg]; exact (below_size HB.out) : w.heap.size ≤ gb238))
         replace HB := Aside0.mk (below_step HB.out hb)
         have NB207_238 := Aside0.mk ((by rw [hg]; exact Nat.ne_of_lt (blk_lt BK207.out) : gb207 ≠ gb238))
         have NB238_207 := Aside0.mk ((by rw [hg]; exact Nat.ne_of_gt (blk_lt BK207.out) : gb238 ≠ gb207))
         replace BK207 := Aside0.mk (blk_below BK207.out hb)
         have NB208_238 := Aside0.mk ((by rw [hg]; exact Nat.ne_of_lt (blk_lt BK208.out) : gb208 ≠ gb238))
         have NB238_208 := Aside0.mk ((by rw [hg]; exact Nat.ne_of_gt (blk_lt BK208.out) : gb238 ≠ gb208))
         replace BK208 := Aside0.mk (blk_below BK208.out hb)
         clear hb hbox hg
         refine hK.out _ _ ⟨(blk_cell BK207.out 0).trans rfl, (blk_cell BK207.out 1).trans rfl, (blk_cell BK207.out 2).trans rfl, (blk_cell BK207.out 3).trans rfl, (blk_cell BK207.out 4).trans rfl, (blk_cell BK208.out 0).trans rfl, (blk_cell BK208.out 1).trans rfl, (blk_cell BK208.out 2).trans rfl, (blk_cell BK208.out 3).trans rfl, (blk_cell BK208.out 4).trans rfl⟩ (fun hHeld => ?_)
         clear hK K
         refine norm_ (a' := ?_) ?_ ?_
         rotate_left
         ·show Act.put _ (some 6) _ = _
          simp only [Act.put, List.setIfInBounds_toArray, List.set_cons_zero, List.set_cons_succ, i64_w, i32_w]
          rfl
         refine one_ (i := 3) (N := some 27) #[true, true, true, true, false, true, false] rfl rfl (by kernel_rfl) (by decide) (fun K hK => ?_)
         refine goes_ Try.func13 (by kernel_rfl) rfl #[.agg #[.int .i64 a1_0, .int .i64 a1_1, .int .i64 a1_2, .slice A1_3 l1_3.length c1_3, .slice A1_4 l1_4.length c1_4]] (by rfl) rfl rfl (by (try simp only [List.map_toArray, List.map_cons, List.map_nil]); first | done | rfl) ?_
         with_reducible refine (laws_toPattern.calls k a1_0 a1_1 a1_2 _ _ l1_3 _ _ l1_4 t220 t221 t222 t223 t226 _ ?side1 ?side2 ?side3 ?side4 A20.out).mono ?_
         (case side1 => exact (Kd.C_below HR1_3.out HB.out))
         (case side2 => exact HC1_3.out)
         (case side3 => exact (Kd.C_below HR1_4.out HB.out))
         (case side4 => exact HC1_4.out)
         rintro e w60 ⟨v224, v227, rfl, ho0, ho1, hb⟩
         refine ⟨_, rfl, ?_⟩
         have HO225 := Aside0.mk (Kd.R_lower (Kd.R_new' (Kd.R_new' ho0 (Kd.R_lt HO216.out)) (Kd.R_lt HO219.out)) (below_size HB.out))
         have HO228 := Aside0.mk (Kd.R_lower (Kd.R_new' (Kd.R_new' ho1 (Kd.R_lt HO216.out)) (Kd.R_lt HO219.out)) (below_size HB.out))
         replace HO216 := Aside0.mk (Kd.R_mono (Kd.R_told (Kd.R_told (Kd.R_old HO216.out hb) (Kd.R_base ho0)) (Kd.R_base ho1)) (fun _ h_ => h_.1))
         replace HO219 := Aside0.mk (Kd.R_mono (Kd.R_told (Kd.R_told (Kd.R_old HO219.out hb) (Kd.R_base ho0)) (Kd.R_base ho1)) (fun _ h_ => h_.1))
         replace BK207 := Aside0.mk (blk_below BK207.out hb)
         replace BK208 := Aside0.mk (blk_below BK208.out hb)
         replace BK238 := Aside0.mk (blk_below BK238.out hb)
         replace HB := Aside0.mk (below_step HB.out hb)
         (try clear hb)
         (try clear hb2)
         (try clear hk)
         (try clear hi)
         (try clear ho0)
         (try clear ho1)
         obtain ⟨Ao61, co61, eo61⟩ := Kd.R_slice HO216.out
         (first | subst eo61 | (injection eo61 with f1_ f2_ f3_; have f4_ := f1_.symm; have f5_ := f3_.symm; clear f1_ f2_ f3_; subst f4_; subst f5_))
         obtain ⟨Ao62, co62, eo62⟩ := Kd.R_slice HO219.out
         (first | subst eo62 | (injection eo62 with f1_ f2_ f3_; have f4_ := f1_.symm; have f5_ := f3_.symm; clear f1_ f2_ f3_; subst f4_; subst f5_))
         obtain ⟨Ao63, co63, eo63⟩ := Kd.R_slice HO225.out
         (first | subst eo63 | (injection eo63 with f1_ f2_ f3_; have f4_ := f1_.symm; have f5_ := f3_.symm; clear f1_ f2_ f3_; subst f4_; subst f5_))
         obtain ⟨Ao64, co64, eo64⟩ := Kd.R_slice HO228.out
         (first | subst eo64 | (injection eo64 with f1_ f2_ f3_; have f4_ := f1_.symm; have f5_ := f3_.symm; clear f1_ f2_ f3_; subst f4_; subst f5_))
         refine hK.out _ _ ⟨(blk_cell BK207.out 0).trans rfl, (blk_cell BK207.out 1).trans rfl, (blk_cell BK207.out 2).trans rfl, (blk_cell BK207.out 3).trans rfl, (blk_cell BK207.out 4).trans rfl, (blk_cell BK208.out 0).trans rfl, (blk_cell BK208.out 1).trans rfl, (blk_cell BK208.out 2).trans rfl, (blk_cell BK208.out 3).trans rfl, (blk_cell BK208.out 4).trans rfl⟩ (fun hHeld => ?_)
         clear hK K
         refine norm_ (a' := ?_) ?_ ?_
         rotate_left
         ·show Act.put _ (some 27) _ = _
          simp only [Act.put, List.setIfInBounds_toArray, List.set_cons_zero, List.set_cons_succ, i64_w, i32_w]
          rfl
         refine one_ (i := 4) (N := some 28) #[true, true, true, true, true, true, false] rfl rfl (by kernel_rfl) (by decide) (fun K hK => ?_)
         refine goes_ Try.func30 (by kernel_rfl) rfl #[.agg #[.int .i64 t211, .int .i64 t212, .int .i64 t213, .slice Ao61 t214.length co61, .slice Ao62 t217.length co62], .agg #[.int .i64 t220, .int .i64 t221, .int .i64 t222, .slice Ao63 t223.length co63, .slice Ao64 t226.length co64]] (by rfl) rfl rfl (by (try simp only [List.map_toArray, List.map_cons, List.map_nil]); first | done | rfl) ?_
         with_reducible refine (spec_Both.calls k t211 t212 t213 _ _ t214 _ _ t217 t220 t221 t222 _ _ t223 _ _ t226 t229 t230 t231 t232 t235 _ ?side1 ?side2 ?side3 ?side4 ?side5 ?side6 ?side7 ?side8 A21.out).mono ?_
         (case side1 => exact (Kd.R_reads' HO216.out).2.2)
         (case side2 => exact (Kd.R_reads' HO216.out).2.1)
         (case side3 => exact (Kd.R_reads' HO219.out).2.2)
         (case side4 => exact (Kd.R_reads' HO219.out).2.1)
         (case side5 => exact (Kd.R_reads' HO225.out).2.2)
         (case side6 => exact (Kd.R_reads' HO225.out).2.1)
         (case side7 => exact (Kd.R_reads' HO228.out).2.2)
         (case side8 => exact (Kd.R_reads' HO228.out).2.1)
         rintro e w65 ⟨v233, v236, rfl, ho0, ho1, hb⟩
         refine ⟨_, rfl, ?_⟩
         have HO234 := Aside0.mk (Kd.R_lower (Kd.R_new' (Kd.R_new' (Kd.R_new' (Kd.R_new' ho0 (Kd.R_lt HO216.out)) (Kd.R_lt HO219.out)) (Kd.R_lt HO225.out)) (Kd.R_lt HO228.out)) (below_size HB.out))
         have HO237 := Aside0.mk (Kd.R_lower (Kd.R_new' (Kd.R_new' (Kd.R_new' (Kd.R_new' ho1 (Kd.R_lt HO216.out)) (Kd.R_lt HO219.out)) (Kd.R_lt HO225.out)) (Kd.R_lt HO228.out)) (below_size HB.out))
         replace HO216 := Aside0.mk (Kd.R_mono (Kd.R_told (Kd.R_told (Kd.R_old HO216.out hb) (Kd.R_base ho0)) (Kd.R_base ho1)) (fun _ h_ => h_.1))
         replace HO219 := Aside0.mk (Kd.R_mono (Kd.R_told (Kd.R_told (Kd.R_old HO219.out hb) (Kd.R_base ho0)) (Kd.R_base ho1)) (fun _ h_ => h_.1))
         replace HO225 := Aside0.mk (Kd.R_mono (Kd.R_told (Kd.R_told (Kd.R_old HO225.out hb) (Kd.R_base ho0)) (Kd.R_base ho1)) (fun _ h_ => h_.1))
         replace HO228 := Aside0.mk (Kd.R_mono (Kd.R_told (Kd.R_told (Kd.R_old HO228.out hb) (Kd.R_base ho0)) (Kd.R_base ho1)) (fun _ h_ => h_.1))
         replace BK207 := Aside0.mk (blk_below BK207.out hb)
         replace BK208 := Aside0.mk (blk_below BK208.out hb)
         replace BK238 := Aside0.mk (blk_below BK238.out hb)
         replace HB := Aside0.mk (below_step HB.out hb)
         (try clear hb)
         (try clear hb2)
         (try clear hk)
         (try clear hi)
         (try clear ho0)
         (try clear ho1)
         refine hK.out _ _ ⟨(blk_cell BK207.out 0).trans rfl, (blk_cell BK207.out 1).trans rfl, (blk_cell BK207.out 2).trans rfl, (blk_cell BK207.out 3).trans rfl, (blk_cell BK207.out 4).trans rfl, (blk_cell BK208.out 0).trans rfl, (blk_cell BK208.out 1).trans rfl, (blk_cell BK208.out 2).trans rfl, (blk_cell BK208.out 3).trans rfl, (blk_cell BK208.out 4).trans rfl⟩ (fun hHeld => ?_)
         clear hK K
         refine norm_ (a' := ?_) ?_ ?_
         rotate_left
         ·show Act.put _ (some 28) _ = _
          simp only [Act.put, List.setIfInBounds_toArray, List.set_cons_zero, List.set_cons_succ, i64_w, i32_w]
          rfl
         exact norm_ (by simp only [putAll, Act.put, List.setIfInBounds_toArray, List.set_cons_zero, List.set_cons_succ]) (hCont (.slice Ao61 t214.length co61, .slice Ao62 t217.length co62, .slice Ao63 t223.length co63, .slice Ao64 t226.length co64, v233, v236, gb238) _ ⟨hHeld, (Kd.R_mono HO216.out (fun _ => pmBothx8_0)), (Kd.R_mono HO219.out (fun _ => pmBothx8_0)), (Kd.R_mono HO225.out (fun _ => pmBothx8_1)), (Kd.R_mono HO228.out (fun _ => pmBothx8_1)), (Kd.R_mono HO234.out (fun _ => pmBothx8_2)), (Kd.R_mono HO237.out (fun _ => pmBothx8_2)), BK207.out, BK208.out, BK238.out, GW238.out, GE238.out, NB207_238.out, NB238_207.out, NB208_238.out, NB238_208.out, HB.out⟩)
       ·skip
        refine box_step ?hg (N := 6) ?hd (cs := #[.int .i64 0, .int .i64 0, .int .i64 0, .slice none 0 0, .slice none 0 0]) (t := 27) ?hr ?_; (case hd => rfl); (case hg => rfl); (case hr => first | (go_simp; done) | (go_simp; rfl))
        intro gb238 hg w58 hbox hb
        have BK238 := Aside0.mk (hbox)
        have GW238 := Aside0.mk ((by rw [hg]; exact (below_size HB.out) : w.heap.size ≤ gb238))
        have GE238 := Aside0.mk ((by rw [hg]; exact (below_size HB.out) : w.heap.size ≤ gb238))
        replace HB := Aside0.mk (below_step HB.out hb)
        have NB207_238 := Aside0.mk ((by rw [hg]; exact Nat.ne_of_lt (blk_lt BK207.out) : gb207 ≠ gb238))
        have NB238_207 := Aside0.mk ((by rw [hg]; exact Nat.ne_of_gt (blk_lt BK207.out) : gb238 ≠ gb207))
        replace BK207 := Aside0.mk (blk_below BK207.out hb)
        have NB208_238 := Aside0.mk ((by rw [hg]; exact Nat.ne_of_lt (blk_lt BK208.out) : gb208 ≠ gb238))
        have NB238_208 := Aside0.mk ((by rw [hg]; exact Nat.ne_of_gt (blk_lt BK208.out) : gb238 ≠ gb208))
        replace BK208 := Aside0.mk (blk_below BK208.out hb)
        clear hb hbox hg
        refine hK.out _ _ ⟨(blk_cell BK207.out 0).trans rfl, (blk_cell BK207.out 1).trans rfl, (blk_cell BK207.out 2).trans rfl, (blk_cell BK207.out 3).trans rfl, (blk_cell BK207.out 4).trans rfl, (blk_cell BK208.out 0).trans rfl, (blk_cell BK208.out 1).trans rfl, (blk_cell BK208.out 2).trans rfl, (blk_cell BK208.out 3).trans rfl, (blk_cell BK208.out 4).trans rfl⟩ (fun hHeld => ?_)
        clear hK K
        refine norm_ (a' := ?_) ?_ ?_
        rotate_left
        ·show Act.put _ (some 6) _ = _
         simp only [Act.put, List.setIfInBounds_toArray, List.set_cons_zero, List.set_cons_succ, i64_w, i32_w]
         rfl
        refine one_ (i := 1) (N := some 25) #[true, true, true, false, false, true, false] rfl rfl (by kernel_rfl) (by decide) (fun K hK => ?_)
        refine goes_ Try.func13 (by kernel_rfl) rfl #[.agg #[.int .i64 a0_0, .int .i64 a0_1, .int .i64 a0_2, .slice A0_3 l0_3.length c0_3, .slice A0_4 l0_4.length c0_4]] (by rfl) rfl rfl (by (try simp only [List.map_toArray, List.map_cons, List.map_nil]); first | done | rfl) ?_
        with_reducible refine (laws_toPattern.calls k a0_0 a0_1 a0_2 _ _ l0_3 _ _ l0_4 t211 t212 t213 t214 t217 _ ?side1 ?side2 ?side3 ?side4 A19.out).mono ?_
        (case side1 => exact (Kd.C_below HR0_3.out HB.out))
        (case side2 => exact HC0_3.out)
        (case side3 => exact (Kd.C_below HR0_4.out HB.out))
        (case side4 => exact HC0_4.out)
        rintro e w59 ⟨v215, v218, rfl, ho0, ho1, hb⟩
        refine ⟨_, rfl, ?_⟩
        have HO216 := Aside0.mk (Kd.R_lower ho0 (below_size HB.out))
        have HO219 := Aside0.mk (Kd.R_lower ho1 (below_size HB.out))
        replace BK207 := Aside0.mk (blk_below BK207.out hb)
        replace BK208 := Aside0.mk (blk_below BK208.out hb)
        replace BK238 := Aside0.mk (blk_below BK238.out hb)
        replace HB := Aside0.mk (below_step HB.out hb)
        (try clear hb)
        (try clear hb2)
        (try clear hk)
        (try clear hi)
        (try clear ho0)
        (try clear ho1)
        refine hK.out _ _ ⟨(blk_cell BK207.out 0).trans rfl, (blk_cell BK207.out 1).trans rfl, (blk_cell BK207.out 2).trans rfl, (blk_cell BK207.out 3).trans rfl, (blk_cell BK207.out 4).trans rfl, (blk_cell BK208.out 0).trans rfl, (blk_cell BK208.out 1).trans rfl, (blk_cell BK208.out 2).trans rfl, (blk_cell BK208.out 3).trans rfl, (blk_cell BK208.out 4).trans rfl⟩ (fun hHeld => ?_)
        clear hK K
        refine norm_ (a' := ?_) ?_ ?_
        rotate_left
        ·show Act.put _ (some 25) _ = _
         simp only [Act.put, List.setIfInBounds_toArray, List.set_cons_zero, List.set_cons_succ, i64_w, i32_w]
         rfl
        refine one_ (i := 3) (N := some 27) #[true, true, true, true, false, true, false] rfl rfl (by kernel_rfl) (by decide) (fun K hK => ?_)
        refine goes_ Try.func13 (by kernel_rfl) rfl #[.agg #[.int .i64 a1_0, .int .i64 a1_1, .int .i64 a1_2, .slice A1_3 l1_3.length c1_3, .slice A1_4 l1_4.length c1_4]] (by rfl) rfl rfl (by (try simp only [List.map_toArray, List.map_cons, List.map_nil]); first | done | rfl) ?_
        with_reducible refine (laws_toPattern.calls k a1_0 a1_1 a1_2 _ _ l1_3 _ _ l1_4 t220 t221 t222 t223 t226 _ ?side1 ?side2 ?side3 ?side4 A20.out).mono ?_
        (case side1 => exact (Kd.C_below HR1_3.out HB.out))
        (case side2 => exact HC1_3.out)
        (case side3 => exact (Kd.C_below HR1_4.out HB.out))
        (case side4 => exact HC1_4.out)
        rintro e w60 ⟨v224, v227, rfl, ho0, ho1, hb⟩
        refine ⟨_, rfl, ?_⟩
        have HO225 := Aside0.mk (Kd.R_lower (Kd.R_new' (Kd.R_new' ho0 (Kd.R_lt HO216.out)) (Kd.R_lt HO219.out)) (below_size HB.out))
        have HO228 := Aside0.mk (Kd.R_lower (Kd.R_new' (Kd.R_new' ho1 (Kd.R_lt HO216.out)) (Kd.R_lt HO219.out)) (below_size HB.out))
        replace HO216 := Aside0.mk (Kd.R_mono (Kd.R_told (Kd.R_told (Kd.R_old HO216.out hb) (Kd.R_base ho0)) (Kd.R_base ho1)) (fun _ h_ => h_.1))
        replace HO219 := Aside0.mk (Kd.R_mono (Kd.R_told (Kd.R_told (Kd.R_old HO219.out hb) (Kd.R_base ho0)) (Kd.R_base ho1)) (fun _ h_ => h_.1))
        replace BK207 := Aside0.mk (blk_below BK207.out hb)
        replace BK208 := Aside0.mk (blk_below BK208.out hb)
        replace BK238 := Aside0.mk (blk_below BK238.out hb)
        replace HB := Aside0.mk (below_step HB.out hb)
        (try clear hb)
        (try clear hb2)
        (try clear hk)
        (try clear hi)
        (try clear ho0)
        (try clear ho1)
        obtain ⟨Ao61, co61, eo61⟩ := Kd.R_slice HO216.out
        (first | subst eo61 | (injection eo61 with f1_ f2_ f3_; have f4_ := f1_.symm; have f5_ := f3_.symm; clear f1_ f2_ f3_; subst f4_; subst f5_))
        obtain ⟨Ao62, co62, eo62⟩ := Kd.R_slice HO219.out
        (first | subst eo62 | (injection eo62 with f1_ f2_ f3_; have f4_ := f1_.symm; have f5_ := f3_.symm; clear f1_ f2_ f3_; subst f4_; subst f5_))
        obtain ⟨Ao63, co63, eo63⟩ := Kd.R_slice HO225.out
        (first | subst eo63 | (injection eo63 with f1_ f2_ f3_; have f4_ := f1_.symm; have f5_ := f3_.symm; clear f1_ f2_ f3_; subst f4_; subst f5_))
        obtain ⟨Ao64, co64, eo64⟩ := Kd.R_slice HO228.out
        (first | subst eo64 | (injection eo64 with f1_ f2_ f3_; have f4_ := f1_.symm; have f5_ := f3_.symm; clear f1_ f2_ f3_; subst f4_; subst f5_))
        refine hK.out _ _ ⟨(blk_cell BK207.out 0).trans rfl, (blk_cell BK207.out 1).trans rfl, (blk_cell BK207.out 2).trans rfl, (blk_cell BK207.out 3).trans rfl, (blk_cell BK207.out 4).trans rfl, (blk_cell BK208.out 0).trans rfl, (blk_cell BK208.out 1).trans rfl, (blk_cell BK208.out 2).trans rfl, (blk_cell BK208.out 3).trans rfl, (blk_cell BK208.out 4).trans rfl⟩ (fun hHeld => ?_)
        clear hK K
        refine norm_ (a' := ?_) ?_ ?_
        rotate_left
        ·show Act.put _ (some 27) _ = _
         simp only [Act.put, List.setIfInBounds_toArray, List.set_cons_zero, List.set_cons_succ, i64_w, i32_w]
         rfl
        refine one_ (i := 4) (N := some 28) #[true, true, true, true, true, true, false] rfl rfl (by kernel_rfl) (by decide) (fun K hK => ?_)
        refine goes_ Try.func30 (by kernel_rfl) rfl #[.agg #[.int .i64 t211, .int .i64 t212, .int .i64 t213, .slice Ao61 t214.length co61, .slice Ao62 t217.length co62], .agg #[.int .i64 t220, .int .i64 t221, .int .i64 t222, .slice Ao63 t223.length co63, .slice Ao64 t226.length co64]] (by rfl) rfl rfl (by (try simp only [List.map_toArray, List.map_cons, List.map_nil]); first | done | rfl) ?_
        with_reducible refine (spec_Both.calls k t211 t212 t213 _ _ t214 _ _ t217 t220 t221 t222 _ _ t223 _ _ t226 t229 t230 t231 t232 t235 _ ?side1 ?side2 ?side3 ?side4 ?side5 ?side6 ?side7 ?side8 A21.out).mono ?_
        (case side1 => exact (Kd.R_reads' HO216.out).2.2)
        (case side2 => exact (Kd.R_reads' HO216.out).2.1)
        (case side3 => exact (Kd.R_reads' HO219.out).2.2)
        (case side4 => exact (Kd.R_reads' HO219.out).2.1)
        (case side5 => exact (Kd.R_reads' HO225.out).2.2)
        (case side6 => exact (Kd.R_reads' HO225.out).2.1)
        (case side7 => exact (Kd.R_reads' HO228.out).2.2)
        (case side8 => exact (Kd.R_reads' HO228.out).2.1)
        rintro e w65 ⟨v233, v236, rfl, ho0, ho1, hb⟩
        refine ⟨_, rfl, ?_⟩
        have HO234 := Aside0.mk (Kd.R_lower (Kd.R_new' (Kd.R_new' (Kd.R_new' (Kd.R_new' ho0 (Kd.R_lt HO216.out)) (Kd.R_lt HO219.out)) (Kd.R_lt HO225.out)) (Kd.R_lt HO228.out)) (below_size HB.out))
        have HO237 := Aside0.mk (Kd.R_lower (Kd.R_new' (Kd.R_new' (Kd.R_new' (Kd.R_new' ho1 (Kd.R_lt HO216.out)) (Kd.R_lt HO219.out)) (Kd.R_lt HO225.out)) (Kd.R_lt HO228.out)) (below_size HB.out))
        replace HO216 := Aside0.mk (Kd.R_mono (Kd.R_told (Kd.R_told (Kd.R_old HO216.out hb) (Kd.R_base ho0)) (Kd.R_base ho1)) (fun _ h_ => h_.1))
        replace HO219 := Aside0.mk (Kd.R_mono (Kd.R_told (Kd.R_told (Kd.R_old HO219.out hb) (Kd.R_base ho0)) (Kd.R_base ho1)) (fun _ h_ => h_.1))
        replace HO225 := Aside0.mk (Kd.R_mono (Kd.R_told (Kd.R_told (Kd.R_old HO225.out hb) (Kd.R_base ho0)) (Kd.R_base ho1)) (fun _ h_ => h_.1))
        replace HO228 := Aside0.mk (Kd.R_mono (Kd.R_told (Kd.R_told (Kd.R_old HO228.out hb) (Kd.R_base ho0)) (Kd.R_base ho1)) (fun _ h_ => h_.1))
        replace BK207 := Aside0.mk (blk_below BK207.out hb)
        replace BK208 := Aside0.mk (blk_below BK208.out hb)
        replace BK238 := Aside0.mk (blk_below BK238.out hb)
        replace HB := Aside0.mk (below_step HB.out hb)
        (try clear hb)
        (try clear hb2)
        (try clear hk)
        (try clear hi)
        (try clear ho0)
        (try clear ho1)
        refine hK.out _ _ ⟨(blk_cell BK207.out 0).trans rfl, (blk_cell BK207.out 1).trans rfl, (blk_cell BK207.out 2).trans rfl, (blk_cell BK207.out 3).trans rfl, (blk_cell BK207.out 4).trans rfl, (blk_cell BK208.out 0).trans rfl, (blk_cell BK208.out 1).trans rfl, (blk_cell BK208.out 2).trans rfl, (blk_cell BK208.out 3).trans rfl, (blk_cell BK208.out 4).trans rfl⟩ (fun hHeld => ?_)
        clear hK K
        refine norm_ (a' := ?_) ?_ ?_
        rotate_left
        ·show Act.put _ (some 28) _ = _
         simp only [Act.put, List.setIfInBounds_toArray, List.set_cons_zero, List.set_cons_succ, i64_w, i32_w]
         rfl
        exact norm_ (by simp only [putAll, Act.put, List.setIfInBounds_toArray, List.set_cons_zero, List.set_cons_succ]) (hCont (.slice Ao61 t214.length co61, .slice Ao62 t217.length co62, .slice Ao63 t223.length co63, .slice Ao64 t226.length co64, v233, v236, gb238) _ ⟨hHeld, (Kd.R_mono HO216.out (fun _ => pmBothx8_0)), (Kd.R_mono HO219.out (fun _ => pmBothx8_0)), (Kd.R_mono HO225.out (fun _ => pmBothx8_1)), (Kd.R_mono HO228.out (fun _ => pmBothx8_1)), (Kd.R_mono HO234.out (fun _ => pmBothx8_2)), (Kd.R_mono HO237.out (fun _ => pmBothx8_2)), BK207.out, BK208.out, BK238.out, GW238.out, GE238.out, NB207_238.out, NB238_207.out, NB208_238.out, NB238_208.out, HB.out⟩)
      rintro ⟨v215, v218, v224, v227, v233, v236, gb238⟩ w66 ⟨hS_, h0_, h1_, h2_, h3_, h4_, h5_, h6_, h7_, h8_, h9_, h10_, h11_, h12_, h13_, h14_, h15_⟩
      have n0_ : Aside0 (Kd.R (Kd.int .i64) 3 w66 w.heap.size (fun k_ => Nv_ k_ v218 ∧ Nv_ k_ v224 ∧ Nv_ k_ v227 ∧ Nv_ k_ v233 ∧ Nv_ k_ v236) v215 t214) := ⟨h0_⟩
      have n1_ : Aside0 (Kd.R (Kd.int .i64) 3 w66 w.heap.size (fun k_ => Nv_ k_ v215 ∧ Nv_ k_ v224 ∧ Nv_ k_ v227 ∧ Nv_ k_ v233 ∧ Nv_ k_ v236) v218 t217) := ⟨h1_⟩
      have n2_ : Aside0 (Kd.R (Kd.int .i64) 3 w66 w.heap.size (fun k_ => Nv_ k_ v215 ∧ Nv_ k_ v218 ∧ Nv_ k_ v227 ∧ Nv_ k_ v233 ∧ Nv_ k_ v236) v224 t223) := ⟨h2_⟩
      have n3_ : Aside0 (Kd.R (Kd.int .i64) 3 w66 w.heap.size (fun k_ => Nv_ k_ v215 ∧ Nv_ k_ v218 ∧ Nv_ k_ v224 ∧ Nv_ k_ v233 ∧ Nv_ k_ v236) v227 t226) := ⟨h3_⟩
      have n4_ : Aside0 (Kd.R (Kd.int .i64) 3 w66 w.heap.size (fun k_ => Nv_ k_ v215 ∧ Nv_ k_ v218 ∧ Nv_ k_ v224 ∧ Nv_ k_ v227 ∧ Nv_ k_ v236) v233 t232) := ⟨h4_⟩
      have n5_ : Aside0 (Kd.R (Kd.int .i64) 3 w66 w.heap.size (fun k_ => Nv_ k_ v215 ∧ Nv_ k_ v218 ∧ Nv_ k_ v224 ∧ Nv_ k_ v227 ∧ Nv_ k_ v233) v236 t235) := ⟨h5_⟩
      have n6_ : Aside0 (w66.heap[gb207]? = some (.cells #[.int .i64 a0_0, .int .i64 a0_1, .int .i64 a0_2, .slice A0_3 l0_3.length c0_3, .slice A0_4 l0_4.length c0_4] 24 (0, 0))) := ⟨h6_⟩
      have n7_ : Aside0 (w66.heap[gb208]? = some (.cells #[.int .i64 a1_0, .int .i64 a1_1, .int .i64 a1_2, .slice A1_3 l1_3.length c1_3, .slice A1_4 l1_4.length c1_4] 24 (0, 0))) := ⟨h7_⟩
      have n8_ : Aside0 (w66.heap[gb238]? = some (.cells #[.int .i64 0, .int .i64 0, .int .i64 0, .slice none 0 0, .slice none 0 0] 27 (0, 0))) := ⟨h8_⟩
      have n9_ : Aside0 (w.heap.size ≤ gb238) := ⟨h9_⟩
      have n10_ : Aside0 (w.heap.size ≤ gb238) := ⟨h10_⟩
      have n11_ : Aside0 (gb207 ≠ gb238) := ⟨h11_⟩
      have n12_ : Aside0 (gb238 ≠ gb207) := ⟨h12_⟩
      have n13_ : Aside0 (gb208 ≠ gb238) := ⟨h13_⟩
      have n14_ : Aside0 (gb238 ≠ gb208) := ⟨h14_⟩
      have n15_ : Aside0 (Below w.heap.size w w66) := ⟨h15_⟩
      clear BK207
      clear BK208
      clear HB
      clear h0_ h1_ h2_ h3_ h4_ h5_ h6_ h7_ h8_ h9_ h10_ h11_ h12_ h13_ h14_ h15_
      have HO216 := n0_
      have HO219 := n1_
      have HO225 := n2_
      have HO228 := n3_
      have HO234 := n4_
      have HO237 := n5_
      have BK207 := n6_
      have BK208 := n7_
      have BK238 := n8_
      have GW238 := n9_
      have GE238 := n10_
      have NB207_238 := n11_
      have NB238_207 := n12_
      have NB208_238 := n13_
      have NB238_208 := n14_
      have HB := n15_
      clear n0_ n1_ n2_ n3_ n4_ n5_ n6_ n7_ n8_ n9_ n10_ n11_ n12_ n13_ n14_ n15_
      have hHeld : w66.cell? ⟨gb207, 0, none⟩ = some (.int .i64 a0_0) ∧ w66.cell? ⟨gb207, 1, none⟩ = some (.int .i64 a0_1) ∧ w66.cell? ⟨gb207, 2, none⟩ = some (.int .i64 a0_2) ∧ w66.cell? ⟨gb207, 3, none⟩ = some (.slice A0_3 l0_3.length c0_3) ∧ w66.cell? ⟨gb207, 4, none⟩ = some (.slice A0_4 l0_4.length c0_4) ∧ w66.cell? ⟨gb208, 0, none⟩ = some (.int .i64 a1_0) ∧ w66.cell? ⟨gb208, 1, none⟩ = some (.int .i64 a1_1) ∧ w66.cell? ⟨gb208, 2, none⟩ = some (.int .i64 a1_2) ∧ w66.cell? ⟨gb208, 3, none⟩ = some (.slice A1_3 l1_3.length c1_3) ∧ w66.cell? ⟨gb208, 4, none⟩ = some (.slice A1_4 l1_4.length c1_4) := hS_
      obtain ⟨Ao70, co70, eo70⟩ := Kd.R_slice HO234.out
      (first | subst eo70 | (injection eo70 with f1_ f2_ f3_; have f4_ := f1_.symm; have f5_ := f3_.symm; clear f1_ f2_ f3_; subst f4_; subst f5_))
      obtain ⟨Ao72, co72, eo72⟩ := Kd.R_slice HO237.out
      (first | subst eo72 | (injection eo72 with f1_ f2_ f3_; have f4_ := f1_.symm; have f5_ := f3_.symm; clear f1_ f2_ f3_; subst f4_; subst f5_))
      refine norm_ (a' := ?_) ?_ ?_
      rotate_left
      ·simp only [putAll, Act.put, List.setIfInBounds_toArray, List.set_cons_zero, List.set_cons_succ]
       rfl
      refine one_ (i := 6) (N := none) #[true, true, true, true, true, true, true] rfl rfl (by kernel_rfl) (by decide) (fun K hK => ?_)
      have hs67 : w66.cell? ⟨gb238, 0, none⟩ = some (.int .i64 0) := (blk_cell BK238.out 0).trans rfl
      have hfs67 := blk_frozen BK238.out 0
      have hns67_0 := NB207_238.out
      have hns67_1 := NB208_238.out
      have hms67_0 := NB238_207.out
      have hms67_1 := NB238_208.out
      have hs68 : w66.cell? ⟨gb238, 1, none⟩ = some (.int .i64 0) := (blk_cell BK238.out 1).trans rfl
      have hfs68 := blk_frozen BK238.out 1
      have hns68_0 := NB207_238.out
      have hns68_1 := NB208_238.out
      have hms68_0 := NB238_207.out
      have hms68_1 := NB238_208.out
      have hs69 : w66.cell? ⟨gb238, 2, none⟩ = some (.int .i64 0) := (blk_cell BK238.out 2).trans rfl
      have hfs69 := blk_frozen BK238.out 2
      have hns69_0 := NB207_238.out
      have hns69_1 := NB208_238.out
      have hms69_0 := NB238_207.out
      have hms69_1 := NB238_208.out
      have hs71 : w66.cell? ⟨gb238, 3, none⟩ = some (.slice none 0 0) := (blk_cell BK238.out 3).trans rfl
      have hfs71 := blk_frozen BK238.out 3
      have hns71_0 := NB207_238.out
      have hns71_1 := NB208_238.out
      have hms71_0 := NB238_207.out
      have hms71_1 := NB238_208.out
      have hs73 : w66.cell? ⟨gb238, 4, none⟩ = some (.slice none 0 0) := (blk_cell BK238.out 4).trans rfl
      have hfs73 := blk_frozen BK238.out 4
      have hns73_0 := NB207_238.out
      have hns73_1 := NB208_238.out
      have hms73_0 := NB238_207.out
      have hms73_1 := NB238_208.out
      refine skip_ (w1 := ?_) (by rfl) rfl ?_ ?_
      rotate_left
      ·go_simp
       rfl
      refine hK.out _ _ ⟨((cell_far (p := ⟨gb238, _, none⟩) NB207_238.out _).trans (((cell_far (p := ⟨gb238, _, none⟩) NB207_238.out _).trans (((cell_far (p := ⟨gb238, _, none⟩) NB207_238.out _).trans (((cell_far (p := ⟨gb238, _, none⟩) NB207_238.out _).trans (((cell_far (p := ⟨gb238, _, none⟩) NB207_238.out _).trans (hHeld.1)))))))))), ((cell_far (p := ⟨gb238, _, none⟩) NB207_238.out _).trans (((cell_far (p := ⟨gb238, _, none⟩) NB207_238.out _).trans (((cell_far (p := ⟨gb238, _, none⟩) NB207_238.out _).trans (((cell_far (p := ⟨gb238, _, none⟩) NB207_238.out _).trans (((cell_far (p := ⟨gb238, _, none⟩) NB207_238.out _).trans (hHeld.2.1)))))))))), ((cell_far (p := ⟨gb238, _, none⟩) NB207_238.out _).trans (((cell_far (p := ⟨gb238, _, none⟩) NB207_238.out _).trans (((cell_far (p := ⟨gb238, _, none⟩) NB207_238.out _).trans (((cell_far (p := ⟨gb238, _, none⟩) NB207_238.out _).trans (((cell_far (p := ⟨gb238, _, none⟩) NB207_238.out _).trans (hHeld.2.2.1)))))))))), ((cell_far (p := ⟨gb238, _, none⟩) NB207_238.out _).trans (((cell_far (p := ⟨gb238, _, none⟩) NB207_238.out _).trans (((cell_far (p := ⟨gb238, _, none⟩) NB207_238.out _).trans (((cell_far (p := ⟨gb238, _, none⟩) NB207_238.out _).trans (((cell_far (p := ⟨gb238, _, none⟩) NB207_238.out _).trans (hHeld.2.2.2.1)))))))))), ((cell_far (p := ⟨gb238, _, none⟩) NB207_238.out _).trans (((cell_far (p := ⟨gb238, _, none⟩) NB207_238.out _).trans (((cell_far (p := ⟨gb238, _, none⟩) NB207_238.out _).trans (((cell_far (p := ⟨gb238, _, none⟩) NB207_238.out _).trans (((cell_far (p := ⟨gb238, _, none⟩) NB207_238.out _).trans (hHeld.2.2.2.2.1)))))))))), ((cell_far (p := ⟨gb238, _, none⟩) NB208_238.out _).trans (((cell_far (p := ⟨gb238, _, none⟩) NB208_238.out _).trans (((cell_far (p := ⟨gb238, _, none⟩) NB208_238.out _).trans (((cell_far (p := ⟨gb238, _, none⟩) NB208_238.out _).trans (((cell_far (p := ⟨gb238, _, none⟩) NB208_238.out _).trans (hHeld.2.2.2.2.2.1)))))))))), ((cell_far (p := ⟨gb238, _, none⟩) NB208_238.out _).trans (((cell_far (p := ⟨gb238, _, none⟩) NB208_238.out _).trans (((cell_far (p := ⟨gb238, _, none⟩) NB208_238.out _).trans (((cell_far (p := ⟨gb238, _, none⟩) NB208_238.out _).trans (((cell_far (p := ⟨gb238, _, none⟩) NB208_238.out _).trans (hHeld.2.2.2.2.2.2.1)))))))))), ((cell_far (p := ⟨gb238, _, none⟩) NB208_238.out _).trans (((cell_far (p := ⟨gb238, _, none⟩) NB208_238.out _).trans (((cell_far (p := ⟨gb238, _, none⟩) NB208_238.out _).trans (((cell_far (p := ⟨gb238, _, none⟩) NB208_238.out _).trans (((cell_far (p := ⟨gb238, _, none⟩) NB208_238.out _).trans (hHeld.2.2.2.2.2.2.2.1)))))))))), ((cell_far (p := ⟨gb238, _, none⟩) NB208_238.out _).trans (((cell_far (p := ⟨gb238, _, none⟩) NB208_238.out _).trans (((cell_far (p := ⟨gb238, _, none⟩) NB208_238.out _).trans (((cell_far (p := ⟨gb238, _, none⟩) NB208_238.out _).trans (((cell_far (p := ⟨gb238, _, none⟩) NB208_238.out _).trans (hHeld.2.2.2.2.2.2.2.2.1)))))))))), ((cell_far (p := ⟨gb238, _, none⟩) NB208_238.out _).trans (((cell_far (p := ⟨gb238, _, none⟩) NB208_238.out _).trans (((cell_far (p := ⟨gb238, _, none⟩) NB208_238.out _).trans (((cell_far (p := ⟨gb238, _, none⟩) NB208_238.out _).trans (((cell_far (p := ⟨gb238, _, none⟩) NB208_238.out _).trans (hHeld.2.2.2.2.2.2.2.2.2))))))))))⟩ (fun hHeld => ?_)
      clear hK K
      refine done_ (by kernel_rfl) ?_
      have hnb74 := NB207_238.out
      have hnc74 := NB238_207.out
      have hcz75_0 : w66.cell? ⟨gb207, 0, none⟩ = some (.int .i64 a0_0) := (blk_cell BK207.out 0).trans rfl
      have hcz75_1 : w66.cell? ⟨gb207, 1, none⟩ = some (.int .i64 a0_1) := (blk_cell BK207.out 1).trans rfl
      have hcz75_2 : w66.cell? ⟨gb207, 2, none⟩ = some (.int .i64 a0_2) := (blk_cell BK207.out 2).trans rfl
      have hcz75_3 : w66.cell? ⟨gb207, 3, none⟩ = some (.slice A0_3 l0_3.length c0_3) := (blk_cell BK207.out 3).trans rfl
      have hcz75_4 : w66.cell? ⟨gb207, 4, none⟩ = some (.slice A0_4 l0_4.length c0_4) := (blk_cell BK207.out 4).trans rfl
      have hfz75_0 := blk_frozen BK207.out 0
      have hfz75_1 := blk_frozen BK207.out 1
      have hfz75_2 := blk_frozen BK207.out 2
      have hfz75_3 := blk_frozen BK207.out 3
      have hfz75_4 := blk_frozen BK207.out 4
      try go_wp2_with (first | ((with_reducible refine gate_callee (f := 13) rfl ?_); refine goesL_ (some 30) rfl rfl Try.func13 (by kernel_rfl) rfl #[.agg #[.int .i64 a0_0, .int .i64 a0_1, .int .i64 a0_2, .slice A0_3 l0_3.length c0_3, .slice A0_4 l0_4.length c0_4]] rfl (by (try simp only [List.map_toArray, List.map_cons, List.map_nil]); first | done | rfl) ?_; (with_reducible refine (laws_toPattern.calls k a0_0 a0_1 a0_2 _ _ l0_3 _ _ l0_4 t239 t240 t241 t242 t245 _ ?side1 ?side2 ?side3 ?side4 A22.out).mono ?_); (case side1 => exact Kd.C_below HR0_3.out (by repeat (first | (with_reducible first | exact HB.out | apply below_alloc | apply pw_below_drewN | apply below_drew1 | refine below_set ?_ GE207.out | refine below_set ?_ GE208.out | refine below_set ?_ GE238.out) | exact HB.out))); (case side2 => exact HC0_3.out); (case side3 => exact Kd.C_below HR0_4.out (by repeat (first | (with_reducible first | exact HB.out | apply below_alloc | apply pw_below_drewN | apply below_drew1 | refine below_set ?_ GE207.out | refine below_set ?_ GE208.out | refine below_set ?_ GE238.out) | exact HB.out))); (case side4 => exact HC0_4.out); rintro e w76 ⟨v243, v246, rfl, ho0, ho1, hb⟩; refine ⟨_, rfl, ?_⟩; have cs1_ := Kd.R_mono (Kd.R_far (p := ⟨gb238, 4, none⟩) (Kd.R_far (p := ⟨gb238, 3, none⟩) (Kd.R_far (p := ⟨gb238, 2, none⟩) (Kd.R_far (p := ⟨gb238, 1, none⟩) (Kd.R_far (p := ⟨gb238, 0, none⟩) (Kd.R_types HO234.out BK238.out (by decide)) (fun _ hk => hk.2) (.int .i64 t229)) (fun _ hk => hk.2) (.int .i64 t230)) (fun _ hk => hk.2) (.int .i64 t231)) (fun _ hk => hk.2) (.slice Ao70 t232.length co70)) (fun _ hk => hk.2) (.slice Ao72 t235.length co72)) (fun _ h_ => h_.1); have cs2_ := Kd.R_mono (Kd.R_far (p := ⟨gb238, 4, none⟩) (Kd.R_far (p := ⟨gb238, 3, none⟩) (Kd.R_far (p := ⟨gb238, 2, none⟩) (Kd.R_far (p := ⟨gb238, 1, none⟩) (Kd.R_far (p := ⟨gb238, 0, none⟩) (Kd.R_types HO237.out BK238.out (by decide)) (fun _ hk => hk.2) (.int .i64 t229)) (fun _ hk => hk.2) (.int .i64 t230)) (fun _ hk => hk.2) (.int .i64 t231)) (fun _ hk => hk.2) (.slice Ao70 t232.length co70)) (fun _ hk => hk.2) (.slice Ao72 t235.length co72)) (fun _ h_ => h_.1); replace HO234 := Aside0.mk (Kd.R_mono (Kd.R_told (Kd.R_told (Kd.R_old cs1_ hb) (Kd.R_base ho0)) (Kd.R_base ho1)) (fun _ h_ => h_.1)); replace HO237 := Aside0.mk (Kd.R_mono (Kd.R_told (Kd.R_told (Kd.R_old cs2_ hb) (Kd.R_base ho0)) (Kd.R_base ho1)) (fun _ h_ => h_.1)); have HO244 := Aside0.mk (Kd.R_lower (Kd.R_new' (Kd.R_new' ho0 (Kd.R_lt cs1_)) (Kd.R_lt cs2_)) (below_size (by repeat (first | (with_reducible first | exact HB.out | apply below_alloc | apply pw_below_drewN | apply below_drew1 | refine below_set ?_ GE207.out | refine below_set ?_ GE208.out | refine below_set ?_ GE238.out) | exact HB.out)))); have HO247 := Aside0.mk (Kd.R_lower (Kd.R_new' (Kd.R_new' ho1 (Kd.R_lt cs1_)) (Kd.R_lt cs2_)) (below_size (by repeat (first | (with_reducible first | exact HB.out | apply below_alloc | apply pw_below_drewN | apply below_drew1 | refine below_set ?_ GE207.out | refine below_set ?_ GE208.out | refine below_set ?_ GE238.out) | exact HB.out)))); replace BK207 := Aside0.mk (blk_below (g := gb207) (o := .cells #[.int .i64 a0_0, .int .i64 a0_1, .int .i64 a0_2, .slice A0_3 l0_3.length c0_3, .slice A0_4 l0_4.length c0_4] 24 (0, 0)) (by (with_reducible repeat (first | refine blk_drewN ?_ _ | refine blk_drew ?_ | refine blk_alloc ?_ _)); refine blk_far ?_ NB207_238.out _; (with_reducible repeat (first | refine blk_drewN ?_ _ | refine blk_drew ?_ | refine blk_alloc ?_ _)); refine blk_far ?_ NB207_238.out _; (with_reducible repeat (first | refine blk_drewN ?_ _ | refine blk_drew ?_ | refine blk_alloc ?_ _)); refine blk_far ?_ NB207_238.out _; (with_reducible repeat (first | refine blk_drewN ?_ _ | refine blk_drew ?_ | refine blk_alloc ?_ _)); refine blk_far ?_ NB207_238.out _; (with_reducible repeat (first | refine blk_drewN ?_ _ | refine blk_drew ?_ | refine blk_alloc ?_ _)); refine blk_far ?_ NB207_238.out _; (with_reducible repeat (first | refine blk_drewN ?_ _ | refine blk_drew ?_ | refine blk_alloc ?_ _)); exact BK207.out) hb); replace BK208 := Aside0.mk (blk_below (g := gb208) (o := .cells #[.int .i64 a1_0, .int .i64 a1_1, .int .i64 a1_2, .slice A1_3 l1_3.length c1_3, .slice A1_4 l1_4.length c1_4] 24 (0, 0)) (by (with_reducible repeat (first | refine blk_drewN ?_ _ | refine blk_drew ?_ | refine blk_alloc ?_ _)); refine blk_far ?_ NB208_238.out _; (with_reducible repeat (first | refine blk_drewN ?_ _ | refine blk_drew ?_ | refine blk_alloc ?_ _)); refine blk_far ?_ NB208_238.out _; (with_reducible repeat (first | refine blk_drewN ?_ _ | refine blk_drew ?_ | refine blk_alloc ?_ _)); refine blk_far ?_ NB208_238.out _; (with_reducible repeat (first | refine blk_drewN ?_ _ | refine blk_drew ?_ | refine blk_alloc ?_ _)); refine blk_far ?_ NB208_238.out _; (with_reducible repeat (first | refine blk_drewN ?_ _ | refine blk_drew ?_ | refine blk_alloc ?_ _)); refine blk_far ?_ NB208_238.out _; (with_reducible repeat (first | refine blk_drewN ?_ _ | refine blk_drew ?_ | refine blk_alloc ?_ _)); exact BK208.out) hb); replace BK238 := Aside0.mk (blk_below (g := gb238) (o := .cells #[.int .i64 t229, .int .i64 t230, .int .i64 t231, .slice Ao70 t232.length co70, .slice Ao72 t235.length co72] 27 (0, 0)) (by (with_reducible repeat (first | refine blk_drewN ?_ _ | refine blk_drew ?_ | refine blk_alloc ?_ _)); refine blk_put (cs := #[.int .i64 t229, .int .i64 t230, .int .i64 t231, .slice Ao70 t232.length co70, .slice none 0 0]) ?_ 4 _ rfl; (with_reducible repeat (first | refine blk_drewN ?_ _ | refine blk_drew ?_ | refine blk_alloc ?_ _)); refine blk_put (cs := #[.int .i64 t229, .int .i64 t230, .int .i64 t231, .slice none 0 0, .slice none 0 0]) ?_ 3 _ rfl; (with_reducible repeat (first | refine blk_drewN ?_ _ | refine blk_drew ?_ | refine blk_alloc ?_ _)); refine blk_put (cs := #[.int .i64 t229, .int .i64 t230, .int .i64 0, .slice none 0 0, .slice none 0 0]) ?_ 2 _ rfl; (with_reducible repeat (first | refine blk_drewN ?_ _ | refine blk_drew ?_ | refine blk_alloc ?_ _)); refine blk_put (cs := #[.int .i64 t229, .int .i64 0, .int .i64 0, .slice none 0 0, .slice none 0 0]) ?_ 1 _ rfl; (with_reducible repeat (first | refine blk_drewN ?_ _ | refine blk_drew ?_ | refine blk_alloc ?_ _)); refine blk_put (cs := #[.int .i64 0, .int .i64 0, .int .i64 0, .slice none 0 0, .slice none 0 0]) ?_ 0 _ rfl; (with_reducible repeat (first | refine blk_drewN ?_ _ | refine blk_drew ?_ | refine blk_alloc ?_ _)); exact BK238.out) hb); replace HB := Aside0.mk (below_step (by repeat (first | (with_reducible first | exact HB.out | apply below_alloc | apply pw_below_drewN | apply below_drew1 | refine below_set ?_ GE207.out | refine below_set ?_ GE208.out | refine below_set ?_ GE238.out) | exact HB.out)) hb); clear cs2_ cs1_; (try clear hb); (try clear hb2); (try clear hk); (try clear hi); (try clear ho0); (try clear ho1)) | ((with_reducible refine gate_dst (N := 7) rfl ?_); refine box_event ?hg (N := 7) ?hd (cs := #[.int .i64 0, .int .i64 0, .int .i64 0, .slice none 0 0, .slice none 0 0]) (t := 27) ?hr ?_; (case hd => rfl); (case hg => rfl); (case hr => first | (go_simp; done) | (go_simp; rfl)); intro gb248 hg w77 hbox hb; replace HO234 := Aside0.mk (Kd.R_below HO234.out hb); replace HO237 := Aside0.mk (Kd.R_below HO237.out hb); replace HO244 := Aside0.mk (Kd.R_below HO244.out hb); replace HO247 := Aside0.mk (Kd.R_below HO247.out hb); have BK248 := Aside0.mk (hbox); have GW248 := Aside0.mk ((by rw [hg]; exact (below_size HB.out) : w.heap.size ≤ gb248)); have GE248 := Aside0.mk ((by rw [hg]; exact (below_size HB.out) : w.heap.size ≤ gb248)); replace HB := Aside0.mk (below_step HB.out hb); have NB207_248 := Aside0.mk ((by rw [hg]; exact Nat.ne_of_lt (blk_lt BK207.out) : gb207 ≠ gb248)); have NB248_207 := Aside0.mk ((by rw [hg]; exact Nat.ne_of_gt (blk_lt BK207.out) : gb248 ≠ gb207)); replace BK207 := Aside0.mk (blk_below BK207.out hb); have NB208_248 := Aside0.mk ((by rw [hg]; exact Nat.ne_of_lt (blk_lt BK208.out) : gb208 ≠ gb248)); have NB248_208 := Aside0.mk ((by rw [hg]; exact Nat.ne_of_gt (blk_lt BK208.out) : gb248 ≠ gb208)); replace BK208 := Aside0.mk (blk_below BK208.out hb); have NB238_248 := Aside0.mk ((by rw [hg]; exact Nat.ne_of_lt (blk_lt BK238.out) : gb238 ≠ gb248)); have NB248_238 := Aside0.mk ((by rw [hg]; exact Nat.ne_of_gt (blk_lt BK238.out) : gb248 ≠ gb238)); replace BK238 := Aside0.mk (blk_below BK238.out hb); clear hb hbox hg; have hnb78 := NB248_207.out; have hnc78 := NB207_248.out; have hnb79 := NB248_208.out; have hnc79 := NB208_248.out; have hnb80 := NB248_238.out; have hnc80 := NB238_248.out; have hcz81_0 : w77.cell? ⟨gb248, 0, none⟩ = some (.int .i64 0) := (blk_cell BK248.out 0).trans rfl; have hcz81_1 : w77.cell? ⟨gb248, 1, none⟩ = some (.int .i64 0) := (blk_cell BK248.out 1).trans rfl; have hcz81_2 : w77.cell? ⟨gb248, 2, none⟩ = some (.int .i64 0) := (blk_cell BK248.out 2).trans rfl; have hcz81_3 : w77.cell? ⟨gb248, 3, none⟩ = some (.slice none 0 0) := (blk_cell BK248.out 3).trans rfl; have hcz81_4 : w77.cell? ⟨gb248, 4, none⟩ = some (.slice none 0 0) := (blk_cell BK248.out 4).trans rfl; have hfz81_0 := blk_frozen BK248.out 0; have hfz81_1 := blk_frozen BK248.out 1; have hfz81_2 := blk_frozen BK248.out 2; have hfz81_3 := blk_frozen BK248.out 3; have hfz81_4 := blk_frozen BK248.out 4; obtain ⟨Ao82, co82, eo82⟩ := Kd.R_slice HO244.out; subst eo82; obtain ⟨Ao83, co83, eo83⟩ := Kd.R_slice HO247.out; subst eo83; have hnb84 := NB208_238.out; have hnc84 := NB238_208.out; have hcz85_0 : w77.cell? ⟨gb208, 0, none⟩ = some (.int .i64 a1_0) := (blk_cell BK208.out 0).trans rfl; have hcz85_1 : w77.cell? ⟨gb208, 1, none⟩ = some (.int .i64 a1_1) := (blk_cell BK208.out 1).trans rfl; have hcz85_2 : w77.cell? ⟨gb208, 2, none⟩ = some (.int .i64 a1_2) := (blk_cell BK208.out 2).trans rfl; have hcz85_3 : w77.cell? ⟨gb208, 3, none⟩ = some (.slice A1_3 l1_3.length c1_3) := (blk_cell BK208.out 3).trans rfl; have hcz85_4 : w77.cell? ⟨gb208, 4, none⟩ = some (.slice A1_4 l1_4.length c1_4) := (blk_cell BK208.out 4).trans rfl; have hfz85_0 := blk_frozen BK208.out 0; have hfz85_1 := blk_frozen BK208.out 1; have hfz85_2 := blk_frozen BK208.out 2; have hfz85_3 := blk_frozen BK208.out 3; have hfz85_4 := blk_frozen BK208.out 4) | ((with_reducible refine gate_callee (f := 13) rfl ?_); refine goesL_ (some 32) rfl rfl Try.func13 (by kernel_rfl) rfl #[.agg #[.int .i64 a1_0, .int .i64 a1_1, .int .i64 a1_2, .slice A1_3 l1_3.length c1_3, .slice A1_4 l1_4.length c1_4]] rfl (by (try simp only [List.map_toArray, List.map_cons, List.map_nil]); first | done | rfl) ?_; (with_reducible refine (laws_toPattern.calls k a1_0 a1_1 a1_2 _ _ l1_3 _ _ l1_4 t249 t250 t251 t252 t255 _ ?side1 ?side2 ?side3 ?side4 A23.out).mono ?_); (case side1 => exact Kd.C_below HR1_3.out (by repeat (first | (with_reducible first | exact HB.out | apply below_alloc | apply pw_below_drewN | apply below_drew1 | refine below_set ?_ GE207.out | refine below_set ?_ GE208.out | refine below_set ?_ GE238.out | refine below_set ?_ GE248.out) | exact HB.out))); (case side2 => exact HC1_3.out); (case side3 => exact Kd.C_below HR1_4.out (by repeat (first | (with_reducible first | exact HB.out | apply below_alloc | apply pw_below_drewN | apply below_drew1 | refine below_set ?_ GE207.out | refine below_set ?_ GE208.out | refine below_set ?_ GE238.out | refine below_set ?_ GE248.out) | exact HB.out))); (case side4 => exact HC1_4.out); rintro e w86 ⟨v253, v256, rfl, ho0, ho1, hb⟩; refine ⟨_, rfl, ?_⟩; have cs3_ := Kd.R_mono (Kd.R_far (p := ⟨gb248, 4, none⟩) (Kd.R_far (p := ⟨gb248, 3, none⟩) (Kd.R_far (p := ⟨gb248, 2, none⟩) (Kd.R_far (p := ⟨gb248, 1, none⟩) (Kd.R_far (p := ⟨gb248, 0, none⟩) (Kd.R_types HO234.out BK248.out (by decide)) (fun _ hk => hk.2) (.int .i64 t239)) (fun _ hk => hk.2) (.int .i64 t240)) (fun _ hk => hk.2) (.int .i64 t241)) (fun _ hk => hk.2) (.slice Ao82 t242.length co82)) (fun _ hk => hk.2) (.slice Ao83 t245.length co83)) (fun _ h_ => h_.1); have cs4_ := Kd.R_mono (Kd.R_far (p := ⟨gb248, 4, none⟩) (Kd.R_far (p := ⟨gb248, 3, none⟩) (Kd.R_far (p := ⟨gb248, 2, none⟩) (Kd.R_far (p := ⟨gb248, 1, none⟩) (Kd.R_far (p := ⟨gb248, 0, none⟩) (Kd.R_types HO237.out BK248.out (by decide)) (fun _ hk => hk.2) (.int .i64 t239)) (fun _ hk => hk.2) (.int .i64 t240)) (fun _ hk => hk.2) (.int .i64 t241)) (fun _ hk => hk.2) (.slice Ao82 t242.length co82)) (fun _ hk => hk.2) (.slice Ao83 t245.length co83)) (fun _ h_ => h_.1); have cs5_ := Kd.R_mono (Kd.R_far (p := ⟨gb248, 4, none⟩) (Kd.R_far (p := ⟨gb248, 3, none⟩) (Kd.R_far (p := ⟨gb248, 2, none⟩) (Kd.R_far (p := ⟨gb248, 1, none⟩) (Kd.R_far (p := ⟨gb248, 0, none⟩) (Kd.R_types HO244.out BK248.out (by decide)) (fun _ hk => hk.2) (.int .i64 t239)) (fun _ hk => hk.2) (.int .i64 t240)) (fun _ hk => hk.2) (.int .i64 t241)) (fun _ hk => hk.2) (.slice Ao82 t242.length co82)) (fun _ hk => hk.2) (.slice Ao83 t245.length co83)) (fun _ h_ => h_.1); have cs6_ := Kd.R_mono (Kd.R_far (p := ⟨gb248, 4, none⟩) (Kd.R_far (p := ⟨gb248, 3, none⟩) (Kd.R_far (p := ⟨gb248, 2, none⟩) (Kd.R_far (p := ⟨gb248, 1, none⟩) (Kd.R_far (p := ⟨gb248, 0, none⟩) (Kd.R_types HO247.out BK248.out (by decide)) (fun _ hk => hk.2) (.int .i64 t239)) (fun _ hk => hk.2) (.int .i64 t240)) (fun _ hk => hk.2) (.int .i64 t241)) (fun _ hk => hk.2) (.slice Ao82 t242.length co82)) (fun _ hk => hk.2) (.slice Ao83 t245.length co83)) (fun _ h_ => h_.1); replace HO234 := Aside0.mk (Kd.R_mono (Kd.R_told (Kd.R_told (Kd.R_old cs3_ hb) (Kd.R_base ho0)) (Kd.R_base ho1)) (fun _ h_ => h_.1)); replace HO237 := Aside0.mk (Kd.R_mono (Kd.R_told (Kd.R_told (Kd.R_old cs4_ hb) (Kd.R_base ho0)) (Kd.R_base ho1)) (fun _ h_ => h_.1)); replace HO244 := Aside0.mk (Kd.R_mono (Kd.R_told (Kd.R_told (Kd.R_old cs5_ hb) (Kd.R_base ho0)) (Kd.R_base ho1)) (fun _ h_ => h_.1)); replace HO247 := Aside0.mk (Kd.R_mono (Kd.R_told (Kd.R_told (Kd.R_old cs6_ hb) (Kd.R_base ho0)) (Kd.R_base ho1)) (fun _ h_ => h_.1)); have HO254 := Aside0.mk (Kd.R_lower (Kd.R_new' (Kd.R_new' (Kd.R_new' (Kd.R_new' ho0 (Kd.R_lt cs3_)) (Kd.R_lt cs4_)) (Kd.R_lt cs5_)) (Kd.R_lt cs6_)) (below_size (by repeat (first | (with_reducible first | exact HB.out | apply below_alloc | apply pw_below_drewN | apply below_drew1 | refine below_set ?_ GE207.out | refine below_set ?_ GE208.out | refine below_set ?_ GE238.out | refine below_set ?_ GE248.out) | exact HB.out)))); have HO257 := Aside0.mk (Kd.R_lower (Kd.R_new' (Kd.R_new' (Kd.R_new' (Kd.R_new' ho1 (Kd.R_lt cs3_)) (Kd.R_lt cs4_)) (Kd.R_lt cs5_)) (Kd.R_lt cs6_)) (below_size (by repeat (first | (with_reducible first | exact HB.out | apply below_alloc | apply pw_below_drewN | apply below_drew1 | refine below_set ?_ GE207.out | refine below_set ?_ GE208.out | refine below_set ?_ GE238.out | refine below_set ?_ GE248.out) | exact HB.out)))); replace BK207 := Aside0.mk (blk_below (g := gb207) (o := .cells #[.int .i64 a0_0, .int .i64 a0_1, .int .i64 a0_2, .slice A0_3 l0_3.length c0_3, .slice A0_4 l0_4.length c0_4] 24 (0, 0)) (by (with_reducible repeat (first | refine blk_drewN ?_ _ | refine blk_drew ?_ | refine blk_alloc ?_ _)); refine blk_far ?_ NB207_248.out _; (with_reducible repeat (first | refine blk_drewN ?_ _ | refine blk_drew ?_ | refine blk_alloc ?_ _)); refine blk_far ?_ NB207_248.out _; (with_reducible repeat (first | refine blk_drewN ?_ _ | refine blk_drew ?_ | refine blk_alloc ?_ _)); refine blk_far ?_ NB207_248.out _; (with_reducible repeat (first | refine blk_drewN ?_ _ | refine blk_drew ?_ | refine blk_alloc ?_ _)); refine blk_far ?_ NB207_248.out _; (with_reducible repeat (first | refine blk_drewN ?_ _ | refine blk_drew ?_ | refine blk_alloc ?_ _)); refine blk_far ?_ NB207_248.out _; (with_reducible repeat (first | refine blk_drewN ?_ _ | refine blk_drew ?_ | refine blk_alloc ?_ _)); exact BK207.out) hb); replace BK208 := Aside0.mk (blk_below (g := gb208) (o := .cells #[.int .i64 a1_0, .int .i64 a1_1, .int .i64 a1_2, .slice A1_3 l1_3.length c1_3, .slice A1_4 l1_4.length c1_4] 24 (0, 0)) (by (with_reducible repeat (first | refine blk_drewN ?_ _ | refine blk_drew ?_ | refine blk_alloc ?_ _)); refine blk_far ?_ NB208_248.out _; (with_reducible repeat (first | refine blk_drewN ?_ _ | refine blk_drew ?_ | refine blk_alloc ?_ _)); refine blk_far ?_ NB208_248.out _; (with_reducible repeat (first | refine blk_drewN ?_ _ | refine blk_drew ?_ | refine blk_alloc ?_ _)); refine blk_far ?_ NB208_248.out _; (with_reducible repeat (first | refine blk_drewN ?_ _ | refine blk_drew ?_ | refine blk_alloc ?_ _)); refine blk_far ?_ NB208_248.out _; (with_reducible repeat (first | refine blk_drewN ?_ _ | refine blk_drew ?_ | refine blk_alloc ?_ _)); refine blk_far ?_ NB208_248.out _; (with_reducible repeat (first | refine blk_drewN ?_ _ | refine blk_drew ?_ | refine blk_alloc ?_ _)); exact BK208.out) hb); replace BK238 := Aside0.mk (blk_below (g := gb238) (o := .cells #[.int .i64 t229, .int .i64 t230, .int .i64 t231, .slice Ao70 t232.length co70, .slice Ao72 t235.length co72] 27 (0, 0)) (by (with_reducible repeat (first | refine blk_drewN ?_ _ | refine blk_drew ?_ | refine blk_alloc ?_ _)); refine blk_far ?_ NB238_248.out _; (with_reducible repeat (first | refine blk_drewN ?_ _ | refine blk_drew ?_ | refine blk_alloc ?_ _)); refine blk_far ?_ NB238_248.out _; (with_reducible repeat (first | refine blk_drewN ?_ _ | refine blk_drew ?_ | refine blk_alloc ?_ _)); refine blk_far ?_ NB238_248.out _; (with_reducible repeat (first | refine blk_drewN ?_ _ | refine blk_drew ?_ | refine blk_alloc ?_ _)); refine blk_far ?_ NB238_248.out _; (with_reducible repeat (first | refine blk_drewN ?_ _ | refine blk_drew ?_ | refine blk_alloc ?_ _)); refine blk_far ?_ NB238_248.out _; (with_reducible repeat (first | refine blk_drewN ?_ _ | refine blk_drew ?_ | refine blk_alloc ?_ _)); exact BK238.out) hb); replace BK248 := Aside0.mk (blk_below (g := gb248) (o := .cells #[.int .i64 t239, .int .i64 t240, .int .i64 t241, .slice Ao82 t242.length co82, .slice Ao83 t245.length co83] 27 (0, 0)) (by (with_reducible repeat (first | refine blk_drewN ?_ _ | refine blk_drew ?_ | refine blk_alloc ?_ _)); refine blk_put (cs := #[.int .i64 t239, .int .i64 t240, .int .i64 t241, .slice Ao82 t242.length co82, .slice none 0 0]) ?_ 4 _ rfl; (with_reducible repeat (first | refine blk_drewN ?_ _ | refine blk_drew ?_ | refine blk_alloc ?_ _)); refine blk_put (cs := #[.int .i64 t239, .int .i64 t240, .int .i64 t241, .slice none 0 0, .slice none 0 0]) ?_ 3 _ rfl; (with_reducible repeat (first | refine blk_drewN ?_ _ | refine blk_drew ?_ | refine blk_alloc ?_ _)); refine blk_put (cs := #[.int .i64 t239, .int .i64 t240, .int .i64 0, .slice none 0 0, .slice none 0 0]) ?_ 2 _ rfl; (with_reducible repeat (first | refine blk_drewN ?_ _ | refine blk_drew ?_ | refine blk_alloc ?_ _)); refine blk_put (cs := #[.int .i64 t239, .int .i64 0, .int .i64 0, .slice none 0 0, .slice none 0 0]) ?_ 1 _ rfl; (with_reducible repeat (first | refine blk_drewN ?_ _ | refine blk_drew ?_ | refine blk_alloc ?_ _)); refine blk_put (cs := #[.int .i64 0, .int .i64 0, .int .i64 0, .slice none 0 0, .slice none 0 0]) ?_ 0 _ rfl; (with_reducible repeat (first | refine blk_drewN ?_ _ | refine blk_drew ?_ | refine blk_alloc ?_ _)); exact BK248.out) hb); replace HB := Aside0.mk (below_step (by repeat (first | (with_reducible first | exact HB.out | apply below_alloc | apply pw_below_drewN | apply below_drew1 | refine below_set ?_ GE207.out | refine below_set ?_ GE208.out | refine below_set ?_ GE238.out | refine below_set ?_ GE248.out) | exact HB.out)) hb); clear cs6_ cs5_ cs4_ cs3_; (try clear hb); (try clear hb2); (try clear hk); (try clear hi); (try clear ho0); (try clear ho1)) | ((with_reducible refine gate_dst (N := 8) rfl ?_); refine box_event ?hg (N := 8) ?hd (cs := #[.int .i64 0, .int .i64 0, .int .i64 0, .slice none 0 0, .slice none 0 0]) (t := 27) ?hr ?_; (case hd => rfl); (case hg => rfl); (case hr => first | (go_simp; done) | (go_simp; rfl)); intro gb258 hg w87 hbox hb; replace HO234 := Aside0.mk (Kd.R_below HO234.out hb); replace HO237 := Aside0.mk (Kd.R_below HO237.out hb); replace HO244 := Aside0.mk (Kd.R_below HO244.out hb); replace HO247 := Aside0.mk (Kd.R_below HO247.out hb); replace HO254 := Aside0.mk (Kd.R_below HO254.out hb); replace HO257 := Aside0.mk (Kd.R_below HO257.out hb); have BK258 := Aside0.mk (hbox); have GW258 := Aside0.mk ((by rw [hg]; exact (below_size HB.out) : w.heap.size ≤ gb258)); have GE258 := Aside0.mk ((by rw [hg]; exact (below_size HB.out) : w.heap.size ≤ gb258)); replace HB := Aside0.mk (below_step HB.out hb); have NB207_258 := Aside0.mk ((by rw [hg]; exact Nat.ne_of_lt (blk_lt BK207.out) : gb207 ≠ gb258)); have NB258_207 := Aside0.mk ((by rw [hg]; exact Nat.ne_of_gt (blk_lt BK207.out) : gb258 ≠ gb207)); replace BK207 := Aside0.mk (blk_below BK207.out hb); have NB208_258 := Aside0.mk ((by rw [hg]; exact Nat.ne_of_lt (blk_lt BK208.out) : gb208 ≠ gb258)); have NB258_208 := Aside0.mk ((by rw [hg]; exact Nat.ne_of_gt (blk_lt BK208.out) : gb258 ≠ gb208)); replace BK208 := Aside0.mk (blk_below BK208.out hb); have NB238_258 := Aside0.mk ((by rw [hg]; exact Nat.ne_of_lt (blk_lt BK238.out) : gb238 ≠ gb258)); have NB258_238 := Aside0.mk ((by rw [hg]; exact Nat.ne_of_gt (blk_lt BK238.out) : gb258 ≠ gb238)); replace BK238 := Aside0.mk (blk_below BK238.out hb); have NB248_258 := Aside0.mk ((by rw [hg]; exact Nat.ne_of_lt (blk_lt BK248.out) : gb248 ≠ gb258)); have NB258_248 := Aside0.mk ((by rw [hg]; exact Nat.ne_of_gt (blk_lt BK248.out) : gb258 ≠ gb248)); replace BK248 := Aside0.mk (blk_below BK248.out hb); clear hb hbox hg; have hnb88 := NB258_207.out; have hnc88 := NB207_258.out; have hnb89 := NB258_208.out; have hnc89 := NB208_258.out; have hnb90 := NB258_238.out; have hnc90 := NB238_258.out; have hnb91 := NB258_248.out; have hnc91 := NB248_258.out; have hcz92_0 : w87.cell? ⟨gb258, 0, none⟩ = some (.int .i64 0) := (blk_cell BK258.out 0).trans rfl; have hcz92_1 : w87.cell? ⟨gb258, 1, none⟩ = some (.int .i64 0) := (blk_cell BK258.out 1).trans rfl; have hcz92_2 : w87.cell? ⟨gb258, 2, none⟩ = some (.int .i64 0) := (blk_cell BK258.out 2).trans rfl; have hcz92_3 : w87.cell? ⟨gb258, 3, none⟩ = some (.slice none 0 0) := (blk_cell BK258.out 3).trans rfl; have hcz92_4 : w87.cell? ⟨gb258, 4, none⟩ = some (.slice none 0 0) := (blk_cell BK258.out 4).trans rfl; have hfz92_0 := blk_frozen BK258.out 0; have hfz92_1 := blk_frozen BK258.out 1; have hfz92_2 := blk_frozen BK258.out 2; have hfz92_3 := blk_frozen BK258.out 3; have hfz92_4 := blk_frozen BK258.out 4; obtain ⟨Ao93, co93, eo93⟩ := Kd.R_slice HO254.out; subst eo93; obtain ⟨Ao94, co94, eo94⟩ := Kd.R_slice HO257.out; subst eo94; have hcz95_0 : w87.cell? ⟨gb248, 0, none⟩ = some (.int .i64 t239) := (blk_cell BK248.out 0).trans rfl; have hcz95_1 : w87.cell? ⟨gb248, 1, none⟩ = some (.int .i64 t240) := (blk_cell BK248.out 1).trans rfl; have hcz95_2 : w87.cell? ⟨gb248, 2, none⟩ = some (.int .i64 t241) := (blk_cell BK248.out 2).trans rfl; have hcz95_3 : w87.cell? ⟨gb248, 3, none⟩ = some (.slice Ao82 t242.length co82) := (blk_cell BK248.out 3).trans rfl; have hcz95_4 : w87.cell? ⟨gb248, 4, none⟩ = some (.slice Ao83 t245.length co83) := (blk_cell BK248.out 4).trans rfl; have hfz95_0 := blk_frozen BK248.out 0; have hfz95_1 := blk_frozen BK248.out 1; have hfz95_2 := blk_frozen BK248.out 2; have hfz95_3 := blk_frozen BK248.out 3; have hfz95_4 := blk_frozen BK248.out 4) | ((with_reducible refine gate_callee (f := 31) rfl ?_); refine goesL_ (some 35) rfl rfl Try.func31 (by kernel_rfl) rfl #[.agg #[.int .i64 t239, .int .i64 t240, .int .i64 t241, .slice Ao82 t242.length co82, .slice Ao83 t245.length co83], .agg #[.int .i64 t249, .int .i64 t250, .int .i64 t251, .slice Ao93 t252.length co93, .slice Ao94 t255.length co94]] rfl (by (try simp only [List.map_toArray, List.map_cons, List.map_nil]); first | done | rfl) ?_; (with_reducible refine (impl_Both.calls k t239 t240 t241 _ _ t242 _ _ t245 t249 t250 t251 _ _ t252 _ _ t255 t259 t260 t261 t262 t265 _ ?side1 ?side2 ?side3 ?side4 ?side5 ?side6 ?side7 ?side8 A24.out).mono ?_); (case side1 => refine (Kd.R_reads' (e := 3) (base := w.heap.size) (ok := fun k_ => ((((Nb_ k_ Ao83 t245 co83 ∧ Nb_ k_ Ao70 t232 co70) ∧ Nb_ k_ Ao72 t235 co72) ∧ Nb_ k_ Ao93 t252 co93) ∧ Nb_ k_ Ao94 t255 co94)) (n := t242.length) (c := co82) ?_).2.2; exact (Kd.R_mono (Kd.R_far (p := ⟨gb258, 4, none⟩) (Kd.R_far (p := ⟨gb258, 3, none⟩) (Kd.R_far (p := ⟨gb258, 2, none⟩) (Kd.R_far (p := ⟨gb258, 1, none⟩) (Kd.R_far (p := ⟨gb258, 0, none⟩) (Kd.R_types HO244.out BK258.out (by decide)) (fun _ hk => hk.2) (.int .i64 t249)) (fun _ hk => hk.2) (.int .i64 t250)) (fun _ hk => hk.2) (.int .i64 t251)) (fun _ hk => hk.2) (.slice Ao93 t252.length co93)) (fun _ hk => hk.2) (.slice Ao94 t255.length co94)) (fun _ h_ => h_.1))); (case side2 => exact (Kd.R_reads' HO244.out).2.1); (case side3 => refine (Kd.R_reads' (e := 3) (base := w.heap.size) (ok := fun k_ => ((((Nb_ k_ Ao82 t242 co82 ∧ Nb_ k_ Ao70 t232 co70) ∧ Nb_ k_ Ao72 t235 co72) ∧ Nb_ k_ Ao93 t252 co93) ∧ Nb_ k_ Ao94 t255 co94)) (n := t245.length) (c := co83) ?_).2.2; exact (Kd.R_mono (Kd.R_far (p := ⟨gb258, 4, none⟩) (Kd.R_far (p := ⟨gb258, 3, none⟩) (Kd.R_far (p := ⟨gb258, 2, none⟩) (Kd.R_far (p := ⟨gb258, 1, none⟩) (Kd.R_far (p := ⟨gb258, 0, none⟩) (Kd.R_types HO247.out BK258.out (by decide)) (fun _ hk => hk.2) (.int .i64 t249)) (fun _ hk => hk.2) (.int .i64 t250)) (fun _ hk => hk.2) (.int .i64 t251)) (fun _ hk => hk.2) (.slice Ao93 t252.length co93)) (fun _ hk => hk.2) (.slice Ao94 t255.length co94)) (fun _ h_ => h_.1))); (case side4 => exact (Kd.R_reads' HO247.out).2.1); (case side5 => refine (Kd.R_reads' (e := 3) (base := w.heap.size) (ok := fun k_ => ((((Nb_ k_ Ao94 t255 co94 ∧ Nb_ k_ Ao70 t232 co70) ∧ Nb_ k_ Ao72 t235 co72) ∧ Nb_ k_ Ao82 t242 co82) ∧ Nb_ k_ Ao83 t245 co83)) (n := t252.length) (c := co93) ?_).2.2; exact (Kd.R_mono (Kd.R_far (p := ⟨gb258, 4, none⟩) (Kd.R_far (p := ⟨gb258, 3, none⟩) (Kd.R_far (p := ⟨gb258, 2, none⟩) (Kd.R_far (p := ⟨gb258, 1, none⟩) (Kd.R_far (p := ⟨gb258, 0, none⟩) (Kd.R_types HO254.out BK258.out (by decide)) (fun _ hk => hk.2) (.int .i64 t249)) (fun _ hk => hk.2) (.int .i64 t250)) (fun _ hk => hk.2) (.int .i64 t251)) (fun _ hk => hk.2) (.slice Ao93 t252.length co93)) (fun _ hk => hk.2) (.slice Ao94 t255.length co94)) (fun _ h_ => h_.1))); (case side6 => exact (Kd.R_reads' HO254.out).2.1); (case side7 => refine (Kd.R_reads' (e := 3) (base := w.heap.size) (ok := fun k_ => ((((Nb_ k_ Ao93 t252 co93 ∧ Nb_ k_ Ao70 t232 co70) ∧ Nb_ k_ Ao72 t235 co72) ∧ Nb_ k_ Ao82 t242 co82) ∧ Nb_ k_ Ao83 t245 co83)) (n := t255.length) (c := co94) ?_).2.2; exact (Kd.R_mono (Kd.R_far (p := ⟨gb258, 4, none⟩) (Kd.R_far (p := ⟨gb258, 3, none⟩) (Kd.R_far (p := ⟨gb258, 2, none⟩) (Kd.R_far (p := ⟨gb258, 1, none⟩) (Kd.R_far (p := ⟨gb258, 0, none⟩) (Kd.R_types HO257.out BK258.out (by decide)) (fun _ hk => hk.2) (.int .i64 t249)) (fun _ hk => hk.2) (.int .i64 t250)) (fun _ hk => hk.2) (.int .i64 t251)) (fun _ hk => hk.2) (.slice Ao93 t252.length co93)) (fun _ hk => hk.2) (.slice Ao94 t255.length co94)) (fun _ h_ => h_.1))); (case side8 => exact (Kd.R_reads' HO257.out).2.1); rintro e w96 ⟨v263, v266, rfl, ho0, ho1, hb⟩; refine ⟨_, rfl, ?_⟩; have cs7_ := Kd.R_mono (Kd.R_far (p := ⟨gb258, 4, none⟩) (Kd.R_far (p := ⟨gb258, 3, none⟩) (Kd.R_far (p := ⟨gb258, 2, none⟩) (Kd.R_far (p := ⟨gb258, 1, none⟩) (Kd.R_far (p := ⟨gb258, 0, none⟩) (Kd.R_types HO234.out BK258.out (by decide)) (fun _ hk => hk.2) (.int .i64 t249)) (fun _ hk => hk.2) (.int .i64 t250)) (fun _ hk => hk.2) (.int .i64 t251)) (fun _ hk => hk.2) (.slice Ao93 t252.length co93)) (fun _ hk => hk.2) (.slice Ao94 t255.length co94)) (fun _ h_ => h_.1); have cs8_ := Kd.R_mono (Kd.R_far (p := ⟨gb258, 4, none⟩) (Kd.R_far (p := ⟨gb258, 3, none⟩) (Kd.R_far (p := ⟨gb258, 2, none⟩) (Kd.R_far (p := ⟨gb258, 1, none⟩) (Kd.R_far (p := ⟨gb258, 0, none⟩) (Kd.R_types HO237.out BK258.out (by decide)) (fun _ hk => hk.2) (.int .i64 t249)) (fun _ hk => hk.2) (.int .i64 t250)) (fun _ hk => hk.2) (.int .i64 t251)) (fun _ hk => hk.2) (.slice Ao93 t252.length co93)) (fun _ hk => hk.2) (.slice Ao94 t255.length co94)) (fun _ h_ => h_.1); have cs9_ := Kd.R_mono (Kd.R_far (p := ⟨gb258, 4, none⟩) (Kd.R_far (p := ⟨gb258, 3, none⟩) (Kd.R_far (p := ⟨gb258, 2, none⟩) (Kd.R_far (p := ⟨gb258, 1, none⟩) (Kd.R_far (p := ⟨gb258, 0, none⟩) (Kd.R_types HO244.out BK258.out (by decide)) (fun _ hk => hk.2) (.int .i64 t249)) (fun _ hk => hk.2) (.int .i64 t250)) (fun _ hk => hk.2) (.int .i64 t251)) (fun _ hk => hk.2) (.slice Ao93 t252.length co93)) (fun _ hk => hk.2) (.slice Ao94 t255.length co94)) (fun _ h_ => h_.1); have cs10_ := Kd.R_mono (Kd.R_far (p := ⟨gb258, 4, none⟩) (Kd.R_far (p := ⟨gb258, 3, none⟩) (Kd.R_far (p := ⟨gb258, 2, none⟩) (Kd.R_far (p := ⟨gb258, 1, none⟩) (Kd.R_far (p := ⟨gb258, 0, none⟩) (Kd.R_types HO247.out BK258.out (by decide)) (fun _ hk => hk.2) (.int .i64 t249)) (fun _ hk => hk.2) (.int .i64 t250)) (fun _ hk => hk.2) (.int .i64 t251)) (fun _ hk => hk.2) (.slice Ao93 t252.length co93)) (fun _ hk => hk.2) (.slice Ao94 t255.length co94)) (fun _ h_ => h_.1); have cs11_ := Kd.R_mono (Kd.R_far (p := ⟨gb258, 4, none⟩) (Kd.R_far (p := ⟨gb258, 3, none⟩) (Kd.R_far (p := ⟨gb258, 2, none⟩) (Kd.R_far (p := ⟨gb258, 1, none⟩) (Kd.R_far (p := ⟨gb258, 0, none⟩) (Kd.R_types HO254.out BK258.out (by decide)) (fun _ hk => hk.2) (.int .i64 t249)) (fun _ hk => hk.2) (.int .i64 t250)) (fun _ hk => hk.2) (.int .i64 t251)) (fun _ hk => hk.2) (.slice Ao93 t252.length co93)) (fun _ hk => hk.2) (.slice Ao94 t255.length co94)) (fun _ h_ => h_.1); have cs12_ := Kd.R_mono (Kd.R_far (p := ⟨gb258, 4, none⟩) (Kd.R_far (p := ⟨gb258, 3, none⟩) (Kd.R_far (p := ⟨gb258, 2, none⟩) (Kd.R_far (p := ⟨gb258, 1, none⟩) (Kd.R_far (p := ⟨gb258, 0, none⟩) (Kd.R_types HO257.out BK258.out (by decide)) (fun _ hk => hk.2) (.int .i64 t249)) (fun _ hk => hk.2) (.int .i64 t250)) (fun _ hk => hk.2) (.int .i64 t251)) (fun _ hk => hk.2) (.slice Ao93 t252.length co93)) (fun _ hk => hk.2) (.slice Ao94 t255.length co94)) (fun _ h_ => h_.1); replace HO234 := Aside0.mk (Kd.R_mono (Kd.R_told (Kd.R_told (Kd.R_old cs7_ hb) (Kd.R_base ho0)) (Kd.R_base ho1)) (fun _ h_ => h_.1)); replace HO237 := Aside0.mk (Kd.R_mono (Kd.R_told (Kd.R_told (Kd.R_old cs8_ hb) (Kd.R_base ho0)) (Kd.R_base ho1)) (fun _ h_ => h_.1)); replace HO244 := Aside0.mk (Kd.R_mono (Kd.R_told (Kd.R_told (Kd.R_old cs9_ hb) (Kd.R_base ho0)) (Kd.R_base ho1)) (fun _ h_ => h_.1)); replace HO247 := Aside0.mk (Kd.R_mono (Kd.R_told (Kd.R_told (Kd.R_old cs10_ hb) (Kd.R_base ho0)) (Kd.R_base ho1)) (fun _ h_ => h_.1)); replace HO254 := Aside0.mk (Kd.R_mono (Kd.R_told (Kd.R_told (Kd.R_old cs11_ hb) (Kd.R_base ho0)) (Kd.R_base ho1)) (fun _ h_ => h_.1)); replace HO257 := Aside0.mk (Kd.R_mono (Kd.R_told (Kd.R_told (Kd.R_old cs12_ hb) (Kd.R_base ho0)) (Kd.R_base ho1)) (fun _ h_ => h_.1)); have HO264 := Aside0.mk (Kd.R_lower (Kd.R_new' (Kd.R_new' (Kd.R_new' (Kd.R_new' (Kd.R_new' (Kd.R_new' ho0 (Kd.R_lt cs7_)) (Kd.R_lt cs8_)) (Kd.R_lt cs9_)) (Kd.R_lt cs10_)) (Kd.R_lt cs11_)) (Kd.R_lt cs12_)) (below_size (by repeat (first | (with_reducible first | exact HB.out | apply below_alloc | apply pw_below_drewN | apply below_drew1 | refine below_set ?_ GE207.out | refine below_set ?_ GE208.out | refine below_set ?_ GE238.out | refine below_set ?_ GE248.out | refine below_set ?_ GE258.out) | exact HB.out)))); have HO267 := Aside0.mk (Kd.R_lower (Kd.R_new' (Kd.R_new' (Kd.R_new' (Kd.R_new' (Kd.R_new' (Kd.R_new' ho1 (Kd.R_lt cs7_)) (Kd.R_lt cs8_)) (Kd.R_lt cs9_)) (Kd.R_lt cs10_)) (Kd.R_lt cs11_)) (Kd.R_lt cs12_)) (below_size (by repeat (first | (with_reducible first | exact HB.out | apply below_alloc | apply pw_below_drewN | apply below_drew1 | refine below_set ?_ GE207.out | refine below_set ?_ GE208.out | refine below_set ?_ GE238.out | refine below_set ?_ GE248.out | refine below_set ?_ GE258.out) | exact HB.out)))); replace BK207 := Aside0.mk (blk_below (g := gb207) (o := .cells #[.int .i64 a0_0, .int .i64 a0_1, .int .i64 a0_2, .slice A0_3 l0_3.length c0_3, .slice A0_4 l0_4.length c0_4] 24 (0, 0)) (by (with_reducible repeat (first | refine blk_drewN ?_ _ | refine blk_drew ?_ | refine blk_alloc ?_ _)); refine blk_far ?_ NB207_258.out _; (with_reducible repeat (first | refine blk_drewN ?_ _ | refine blk_drew ?_ | refine blk_alloc ?_ _)); refine blk_far ?_ NB207_258.out _; (with_reducible repeat (first | refine blk_drewN ?_ _ | refine blk_drew ?_ | refine blk_alloc ?_ _)); refine blk_far ?_ NB207_258.out _; (with_reducible repeat (first | refine blk_drewN ?_ _ | refine blk_drew ?_ | refine blk_alloc ?_ _)); refine blk_far ?_ NB207_258.out _; (with_reducible repeat (first | refine blk_drewN ?_ _ | refine blk_drew ?_ | refine blk_alloc ?_ _)); refine blk_far ?_ NB207_258.out _; (with_reducible repeat (first | refine blk_drewN ?_ _ | refine blk_drew ?_ | refine blk_alloc ?_ _)); exact BK207.out) hb); replace BK208 := Aside0.mk (blk_below (g := gb208) (o := .cells #[.int .i64 a1_0, .int .i64 a1_1, .int .i64 a1_2, .slice A1_3 l1_3.length c1_3, .slice A1_4 l1_4.length c1_4] 24 (0, 0)) (by (with_reducible repeat (first | refine blk_drewN ?_ _ | refine blk_drew ?_ | refine blk_alloc ?_ _)); refine blk_far ?_ NB208_258.out _; (with_reducible repeat (first | refine blk_drewN ?_ _ | refine blk_drew ?_ | refine blk_alloc ?_ _)); refine blk_far ?_ NB208_258.out _; (with_reducible repeat (first | refine blk_drewN ?_ _ | refine blk_drew ?_ | refine blk_alloc ?_ _)); refine blk_far ?_ NB208_258.out _; (with_reducible repeat (first | refine blk_drewN ?_ _ | refine blk_drew ?_ | refine blk_alloc ?_ _)); refine blk_far ?_ NB208_258.out _; (with_reducible repeat (first | refine blk_drewN ?_ _ | refine blk_drew ?_ | refine blk_alloc ?_ _)); refine blk_far ?_ NB208_258.out _; (with_reducible repeat (first | refine blk_drewN ?_ _ | refine blk_drew ?_ | refine blk_alloc ?_ _)); exact BK208.out) hb); replace BK238 := Aside0.mk (blk_below (g := gb238) (o := .cells #[.int .i64 t229, .int .i64 t230, .int .i64 t231, .slice Ao70 t232.length co70, .slice Ao72 t235.length co72] 27 (0, 0)) (by (with_reducible repeat (first | refine blk_drewN ?_ _ | refine blk_drew ?_ | refine blk_alloc ?_ _)); refine blk_far ?_ NB238_258.out _; (with_reducible repeat (first | refine blk_drewN ?_ _ | refine blk_drew ?_ | refine blk_alloc ?_ _)); refine blk_far ?_ NB238_258.out _; (with_reducible repeat (first | refine blk_drewN ?_ _ | refine blk_drew ?_ | refine blk_alloc ?_ _)); refine blk_far ?_ NB238_258.out _; (with_reducible repeat (first | refine blk_drewN ?_ _ | refine blk_drew ?_ | refine blk_alloc ?_ _)); refine blk_far ?_ NB238_258.out _; (with_reducible repeat (first | refine blk_drewN ?_ _ | refine blk_drew ?_ | refine blk_alloc ?_ _)); refine blk_far ?_ NB238_258.out _; (with_reducible repeat (first | refine blk_drewN ?_ _ | refine blk_drew ?_ | refine blk_alloc ?_ _)); exact BK238.out) hb); replace BK248 := Aside0.mk (blk_below (g := gb248) (o := .cells #[.int .i64 t239, .int .i64 t240, .int .i64 t241, .slice Ao82 t242.length co82, .slice Ao83 t245.length co83] 27 (0, 0)) (by (with_reducible repeat (first | refine blk_drewN ?_ _ | refine blk_drew ?_ | refine blk_alloc ?_ _)); refine blk_far ?_ NB248_258.out _; (with_reducible repeat (first | refine blk_drewN ?_ _ | refine blk_drew ?_ | refine blk_alloc ?_ _)); refine blk_far ?_ NB248_258.out _; (with_reducible repeat (first | refine blk_drewN ?_ _ | refine blk_drew ?_ | refine blk_alloc ?_ _)); refine blk_far ?_ NB248_258.out _; (with_reducible repeat (first | refine blk_drewN ?_ _ | refine blk_drew ?_ | refine blk_alloc ?_ _)); refine blk_far ?_ NB248_258.out _; (with_reducible repeat (first | refine blk_drewN ?_ _ | refine blk_drew ?_ | refine blk_alloc ?_ _)); refine blk_far ?_ NB248_258.out _; (with_reducible repeat (first | refine blk_drewN ?_ _ | refine blk_drew ?_ | refine blk_alloc ?_ _)); exact BK248.out) hb); replace BK258 := Aside0.mk (blk_below (g := gb258) (o := .cells #[.int .i64 t249, .int .i64 t250, .int .i64 t251, .slice Ao93 t252.length co93, .slice Ao94 t255.length co94] 27 (0, 0)) (by (with_reducible repeat (first | refine blk_drewN ?_ _ | refine blk_drew ?_ | refine blk_alloc ?_ _)); refine blk_put (cs := #[.int .i64 t249, .int .i64 t250, .int .i64 t251, .slice Ao93 t252.length co93, .slice none 0 0]) ?_ 4 _ rfl; (with_reducible repeat (first | refine blk_drewN ?_ _ | refine blk_drew ?_ | refine blk_alloc ?_ _)); refine blk_put (cs := #[.int .i64 t249, .int .i64 t250, .int .i64 t251, .slice none 0 0, .slice none 0 0]) ?_ 3 _ rfl; (with_reducible repeat (first | refine blk_drewN ?_ _ | refine blk_drew ?_ | refine blk_alloc ?_ _)); refine blk_put (cs := #[.int .i64 t249, .int .i64 t250, .int .i64 0, .slice none 0 0, .slice none 0 0]) ?_ 2 _ rfl; (with_reducible repeat (first | refine blk_drewN ?_ _ | refine blk_drew ?_ | refine blk_alloc ?_ _)); refine blk_put (cs := #[.int .i64 t249, .int .i64 0, .int .i64 0, .slice none 0 0, .slice none 0 0]) ?_ 1 _ rfl; (with_reducible repeat (first | refine blk_drewN ?_ _ | refine blk_drew ?_ | refine blk_alloc ?_ _)); refine blk_put (cs := #[.int .i64 0, .int .i64 0, .int .i64 0, .slice none 0 0, .slice none 0 0]) ?_ 0 _ rfl; (with_reducible repeat (first | refine blk_drewN ?_ _ | refine blk_drew ?_ | refine blk_alloc ?_ _)); exact BK258.out) hb); replace HB := Aside0.mk (below_step (by repeat (first | (with_reducible first | exact HB.out | apply below_alloc | apply pw_below_drewN | apply below_drew1 | refine below_set ?_ GE207.out | refine below_set ?_ GE208.out | refine below_set ?_ GE238.out | refine below_set ?_ GE248.out | refine below_set ?_ GE258.out) | exact HB.out)) hb); clear cs12_ cs11_ cs10_ cs9_ cs8_ cs7_; (try clear hb); (try clear hb2); (try clear hk); (try clear hi); (try clear ho0); (try clear ho1)) | ((with_reducible refine gate_dst (N := 9) rfl ?_); refine box_event ?hg (N := 9) ?hd (cs := #[.int .i64 0, .int .i64 0, .int .i64 0, .slice none 0 0, .slice none 0 0]) (t := 27) ?hr ?_; (case hd => rfl); (case hg => rfl); (case hr => first | (go_simp; done) | (go_simp; rfl)); intro gb268 hg w97 hbox hb; replace HO234 := Aside0.mk (Kd.R_below HO234.out hb); replace HO237 := Aside0.mk (Kd.R_below HO237.out hb); replace HO244 := Aside0.mk (Kd.R_below HO244.out hb); replace HO247 := Aside0.mk (Kd.R_below HO247.out hb); replace HO254 := Aside0.mk (Kd.R_below HO254.out hb); replace HO257 := Aside0.mk (Kd.R_below HO257.out hb); replace HO264 := Aside0.mk (Kd.R_below HO264.out hb); replace HO267 := Aside0.mk (Kd.R_below HO267.out hb); have BK268 := Aside0.mk (hbox); have GW268 := Aside0.mk ((by rw [hg]; exact (below_size HB.out) : w.heap.size ≤ gb268)); have GE268 := Aside0.mk ((by rw [hg]; exact (below_size HB.out) : w.heap.size ≤ gb268)); replace HB := Aside0.mk (below_step HB.out hb); have NB207_268 := Aside0.mk ((by rw [hg]; exact Nat.ne_of_lt (blk_lt BK207.out) : gb207 ≠ gb268)); have NB268_207 := Aside0.mk ((by rw [hg]; exact Nat.ne_of_gt (blk_lt BK207.out) : gb268 ≠ gb207)); replace BK207 := Aside0.mk (blk_below BK207.out hb); have NB208_268 := Aside0.mk ((by rw [hg]; exact Nat.ne_of_lt (blk_lt BK208.out) : gb208 ≠ gb268)); have NB268_208 := Aside0.mk ((by rw [hg]; exact Nat.ne_of_gt (blk_lt BK208.out) : gb268 ≠ gb208)); replace BK208 := Aside0.mk (blk_below BK208.out hb); have NB238_268 := Aside0.mk ((by rw [hg]; exact Nat.ne_of_lt (blk_lt BK238.out) : gb238 ≠ gb268)); have NB268_238 := Aside0.mk ((by rw [hg]; exact Nat.ne_of_gt (blk_lt BK238.out) : gb268 ≠ gb238)); replace BK238 := Aside0.mk (blk_below BK238.out hb); have NB248_268 := Aside0.mk ((by rw [hg]; exact Nat.ne_of_lt (blk_lt BK248.out) : gb248 ≠ gb268)); have NB268_248 := Aside0.mk ((by rw [hg]; exact Nat.ne_of_gt (blk_lt BK248.out) : gb268 ≠ gb248)); replace BK248 := Aside0.mk (blk_below BK248.out hb); have NB258_268 := Aside0.mk ((by rw [hg]; exact Nat.ne_of_lt (blk_lt BK258.out) : gb258 ≠ gb268)); have NB268_258 := Aside0.mk ((by rw [hg]; exact Nat.ne_of_gt (blk_lt BK258.out) : gb268 ≠ gb258)); replace BK258 := Aside0.mk (blk_below BK258.out hb); clear hb hbox hg; have hnb98 := NB268_207.out; have hnc98 := NB207_268.out; have hnb99 := NB268_208.out; have hnc99 := NB208_268.out; have hnb100 := NB268_238.out; have hnc100 := NB238_268.out; have hnb101 := NB268_248.out; have hnc101 := NB248_268.out; have hnb102 := NB268_258.out; have hnc102 := NB258_268.out; have hcz103_0 : w97.cell? ⟨gb268, 0, none⟩ = some (.int .i64 0) := (blk_cell BK268.out 0).trans rfl; have hcz103_1 : w97.cell? ⟨gb268, 1, none⟩ = some (.int .i64 0) := (blk_cell BK268.out 1).trans rfl; have hcz103_2 : w97.cell? ⟨gb268, 2, none⟩ = some (.int .i64 0) := (blk_cell BK268.out 2).trans rfl; have hcz103_3 : w97.cell? ⟨gb268, 3, none⟩ = some (.slice none 0 0) := (blk_cell BK268.out 3).trans rfl; have hcz103_4 : w97.cell? ⟨gb268, 4, none⟩ = some (.slice none 0 0) := (blk_cell BK268.out 4).trans rfl; have hfz103_0 := blk_frozen BK268.out 0; have hfz103_1 := blk_frozen BK268.out 1; have hfz103_2 := blk_frozen BK268.out 2; have hfz103_3 := blk_frozen BK268.out 3; have hfz103_4 := blk_frozen BK268.out 4; obtain ⟨Ao104, co104, eo104⟩ := Kd.R_slice HO264.out; subst eo104; obtain ⟨Ao105, co105, eo105⟩ := Kd.R_slice HO267.out; subst eo105; have hcz106_0 : w97.cell? ⟨gb238, 0, none⟩ = some (.int .i64 t229) := (blk_cell BK238.out 0).trans rfl; have hcz106_1 : w97.cell? ⟨gb238, 1, none⟩ = some (.int .i64 t230) := (blk_cell BK238.out 1).trans rfl; have hcz106_2 : w97.cell? ⟨gb238, 2, none⟩ = some (.int .i64 t231) := (blk_cell BK238.out 2).trans rfl; have hcz106_3 : w97.cell? ⟨gb238, 3, none⟩ = some (.slice Ao70 t232.length co70) := (blk_cell BK238.out 3).trans rfl; have hcz106_4 : w97.cell? ⟨gb238, 4, none⟩ = some (.slice Ao72 t235.length co72) := (blk_cell BK238.out 4).trans rfl; have hfz106_0 := blk_frozen BK238.out 0; have hfz106_1 := blk_frozen BK238.out 1; have hfz106_2 := blk_frozen BK238.out 2; have hfz106_3 := blk_frozen BK238.out 3; have hfz106_4 := blk_frozen BK238.out 4) | ((with_reducible refine gate_callee (f := 15) rfl ?_); refine goesL_ (some 38) rfl rfl Try.func15 (by kernel_rfl) rfl #[.agg #[.int .i64 t259, .int .i64 t260, .int .i64 t261, .slice Ao104 t262.length co104, .slice Ao105 t265.length co105], .agg #[.int .i64 t229, .int .i64 t230, .int .i64 t231, .slice Ao70 t232.length co70, .slice Ao72 t235.length co72]] rfl (by (try simp only [List.map_toArray, List.map_cons, List.map_nil]); first | done | rfl) ?_; (with_reducible refine (laws_eqPattern.calls k t259 t260 t261 _ _ t262 _ _ t265 t229 t230 t231 _ _ t232 _ _ t235 true _ ?side1 ?side2 ?side3 ?side4 ?side5 ?side6 ?side7 ?side8 A25.out).mono ?_); (case side1 => refine (Kd.R_reads' (e := 3) (base := w.heap.size) (ok := fun k_ => ((((((Nb_ k_ Ao105 t265 co105 ∧ Nb_ k_ Ao70 t232 co70) ∧ Nb_ k_ Ao72 t235 co72) ∧ Nb_ k_ Ao82 t242 co82) ∧ Nb_ k_ Ao83 t245 co83) ∧ Nb_ k_ Ao93 t252 co93) ∧ Nb_ k_ Ao94 t255 co94)) (n := t262.length) (c := co104) ?_).2.2; exact (Kd.R_mono (Kd.R_far (p := ⟨gb268, 4, none⟩) (Kd.R_far (p := ⟨gb268, 3, none⟩) (Kd.R_far (p := ⟨gb268, 2, none⟩) (Kd.R_far (p := ⟨gb268, 1, none⟩) (Kd.R_far (p := ⟨gb268, 0, none⟩) (Kd.R_types HO264.out BK268.out (by decide)) (fun _ hk => hk.2) (.int .i64 t259)) (fun _ hk => hk.2) (.int .i64 t260)) (fun _ hk => hk.2) (.int .i64 t261)) (fun _ hk => hk.2) (.slice Ao104 t262.length co104)) (fun _ hk => hk.2) (.slice Ao105 t265.length co105)) (fun _ h_ => h_.1))); (case side2 => exact (Kd.R_reads' HO264.out).2.1); (case side3 => refine (Kd.R_reads' (e := 3) (base := w.heap.size) (ok := fun k_ => ((((((Nb_ k_ Ao104 t262 co104 ∧ Nb_ k_ Ao70 t232 co70) ∧ Nb_ k_ Ao72 t235 co72) ∧ Nb_ k_ Ao82 t242 co82) ∧ Nb_ k_ Ao83 t245 co83) ∧ Nb_ k_ Ao93 t252 co93) ∧ Nb_ k_ Ao94 t255 co94)) (n := t265.length) (c := co105) ?_).2.2; exact (Kd.R_mono (Kd.R_far (p := ⟨gb268, 4, none⟩) (Kd.R_far (p := ⟨gb268, 3, none⟩) (Kd.R_far (p := ⟨gb268, 2, none⟩) (Kd.R_far (p := ⟨gb268, 1, none⟩) (Kd.R_far (p := ⟨gb268, 0, none⟩) (Kd.R_types HO267.out BK268.out (by decide)) (fun _ hk => hk.2) (.int .i64 t259)) (fun _ hk => hk.2) (.int .i64 t260)) (fun _ hk => hk.2) (.int .i64 t261)) (fun _ hk => hk.2) (.slice Ao104 t262.length co104)) (fun _ hk => hk.2) (.slice Ao105 t265.length co105)) (fun _ h_ => h_.1))); (case side4 => exact (Kd.R_reads' HO267.out).2.1); (case side5 => refine (Kd.R_reads' (e := 3) (base := w.heap.size) (ok := fun k_ => (((((((Nv_ k_ v215 ∧ (Nv_ k_ v218 ∧ (Nv_ k_ v224 ∧ (Nv_ k_ v227 ∧ Nb_ k_ Ao72 t235 co72)))) ∧ Nb_ k_ Ao82 t242 co82) ∧ Nb_ k_ Ao83 t245 co83) ∧ Nb_ k_ Ao93 t252 co93) ∧ Nb_ k_ Ao94 t255 co94) ∧ Nb_ k_ Ao104 t262 co104) ∧ Nb_ k_ Ao105 t265 co105)) (n := t232.length) (c := co70) ?_).2.2; exact (Kd.R_mono (Kd.R_far (p := ⟨gb268, 4, none⟩) (Kd.R_far (p := ⟨gb268, 3, none⟩) (Kd.R_far (p := ⟨gb268, 2, none⟩) (Kd.R_far (p := ⟨gb268, 1, none⟩) (Kd.R_far (p := ⟨gb268, 0, none⟩) (Kd.R_types HO234.out BK268.out (by decide)) (fun _ hk => hk.2) (.int .i64 t259)) (fun _ hk => hk.2) (.int .i64 t260)) (fun _ hk => hk.2) (.int .i64 t261)) (fun _ hk => hk.2) (.slice Ao104 t262.length co104)) (fun _ hk => hk.2) (.slice Ao105 t265.length co105)) (fun _ h_ => h_.1))); (case side6 => exact (Kd.R_reads' HO234.out).2.1); (case side7 => refine (Kd.R_reads' (e := 3) (base := w.heap.size) (ok := fun k_ => (((((((Nv_ k_ v215 ∧ (Nv_ k_ v218 ∧ (Nv_ k_ v224 ∧ (Nv_ k_ v227 ∧ Nb_ k_ Ao70 t232 co70)))) ∧ Nb_ k_ Ao82 t242 co82) ∧ Nb_ k_ Ao83 t245 co83) ∧ Nb_ k_ Ao93 t252 co93) ∧ Nb_ k_ Ao94 t255 co94) ∧ Nb_ k_ Ao104 t262 co104) ∧ Nb_ k_ Ao105 t265 co105)) (n := t235.length) (c := co72) ?_).2.2; exact (Kd.R_mono (Kd.R_far (p := ⟨gb268, 4, none⟩) (Kd.R_far (p := ⟨gb268, 3, none⟩) (Kd.R_far (p := ⟨gb268, 2, none⟩) (Kd.R_far (p := ⟨gb268, 1, none⟩) (Kd.R_far (p := ⟨gb268, 0, none⟩) (Kd.R_types HO237.out BK268.out (by decide)) (fun _ hk => hk.2) (.int .i64 t259)) (fun _ hk => hk.2) (.int .i64 t260)) (fun _ hk => hk.2) (.int .i64 t261)) (fun _ hk => hk.2) (.slice Ao104 t262.length co104)) (fun _ hk => hk.2) (.slice Ao105 t265.length co105)) (fun _ h_ => h_.1))); (case side8 => exact (Kd.R_reads' HO237.out).2.1); rintro e w107 ⟨rfl, hb⟩; refine ⟨_, rfl, ?_⟩; replace HO234 := Aside0.mk (Kd.R_below (Kd.R_mono (Kd.R_far (p := ⟨gb268, 4, none⟩) (Kd.R_far (p := ⟨gb268, 3, none⟩) (Kd.R_far (p := ⟨gb268, 2, none⟩) (Kd.R_far (p := ⟨gb268, 1, none⟩) (Kd.R_far (p := ⟨gb268, 0, none⟩) (Kd.R_types HO234.out BK268.out (by decide)) (fun _ hk => hk.2) (.int .i64 t259)) (fun _ hk => hk.2) (.int .i64 t260)) (fun _ hk => hk.2) (.int .i64 t261)) (fun _ hk => hk.2) (.slice Ao104 t262.length co104)) (fun _ hk => hk.2) (.slice Ao105 t265.length co105)) (fun _ h_ => h_.1)) hb); replace HO237 := Aside0.mk (Kd.R_below (Kd.R_mono (Kd.R_far (p := ⟨gb268, 4, none⟩) (Kd.R_far (p := ⟨gb268, 3, none⟩) (Kd.R_far (p := ⟨gb268, 2, none⟩) (Kd.R_far (p := ⟨gb268, 1, none⟩) (Kd.R_far (p := ⟨gb268, 0, none⟩) (Kd.R_types HO237.out BK268.out (by decide)) (fun _ hk => hk.2) (.int .i64 t259)) (fun _ hk => hk.2) (.int .i64 t260)) (fun _ hk => hk.2) (.int .i64 t261)) (fun _ hk => hk.2) (.slice Ao104 t262.length co104)) (fun _ hk => hk.2) (.slice Ao105 t265.length co105)) (fun _ h_ => h_.1)) hb); replace HO244 := Aside0.mk (Kd.R_below (Kd.R_mono (Kd.R_far (p := ⟨gb268, 4, none⟩) (Kd.R_far (p := ⟨gb268, 3, none⟩) (Kd.R_far (p := ⟨gb268, 2, none⟩) (Kd.R_far (p := ⟨gb268, 1, none⟩) (Kd.R_far (p := ⟨gb268, 0, none⟩) (Kd.R_types HO244.out BK268.out (by decide)) (fun _ hk => hk.2) (.int .i64 t259)) (fun _ hk => hk.2) (.int .i64 t260)) (fun _ hk => hk.2) (.int .i64 t261)) (fun _ hk => hk.2) (.slice Ao104 t262.length co104)) (fun _ hk => hk.2) (.slice Ao105 t265.length co105)) (fun _ h_ => h_.1)) hb); replace HO247 := Aside0.mk (Kd.R_below (Kd.R_mono (Kd.R_far (p := ⟨gb268, 4, none⟩) (Kd.R_far (p := ⟨gb268, 3, none⟩) (Kd.R_far (p := ⟨gb268, 2, none⟩) (Kd.R_far (p := ⟨gb268, 1, none⟩) (Kd.R_far (p := ⟨gb268, 0, none⟩) (Kd.R_types HO247.out BK268.out (by decide)) (fun _ hk => hk.2) (.int .i64 t259)) (fun _ hk => hk.2) (.int .i64 t260)) (fun _ hk => hk.2) (.int .i64 t261)) (fun _ hk => hk.2) (.slice Ao104 t262.length co104)) (fun _ hk => hk.2) (.slice Ao105 t265.length co105)) (fun _ h_ => h_.1)) hb); replace HO254 := Aside0.mk (Kd.R_below (Kd.R_mono (Kd.R_far (p := ⟨gb268, 4, none⟩) (Kd.R_far (p := ⟨gb268, 3, none⟩) (Kd.R_far (p := ⟨gb268, 2, none⟩) (Kd.R_far (p := ⟨gb268, 1, none⟩) (Kd.R_far (p := ⟨gb268, 0, none⟩) (Kd.R_types HO254.out BK268.out (by decide)) (fun _ hk => hk.2) (.int .i64 t259)) (fun _ hk => hk.2) (.int .i64 t260)) (fun _ hk => hk.2) (.int .i64 t261)) (fun _ hk => hk.2) (.slice Ao104 t262.length co104)) (fun _ hk => hk.2) (.slice Ao105 t265.length co105)) (fun _ h_ => h_.1)) hb); replace HO257 := Aside0.mk (Kd.R_below (Kd.R_mono (Kd.R_far (p := ⟨gb268, 4, none⟩) (Kd.R_far (p := ⟨gb268, 3, none⟩) (Kd.R_far (p := ⟨gb268, 2, none⟩) (Kd.R_far (p := ⟨gb268, 1, none⟩) (Kd.R_far (p := ⟨gb268, 0, none⟩) (Kd.R_types HO257.out BK268.out (by decide)) (fun _ hk => hk.2) (.int .i64 t259)) (fun _ hk => hk.2) (.int .i64 t260)) (fun _ hk => hk.2) (.int .i64 t261)) (fun _ hk => hk.2) (.slice Ao104 t262.length co104)) (fun _ hk => hk.2) (.slice Ao105 t265.length co105)) (fun _ h_ => h_.1)) hb); replace HO264 := Aside0.mk (Kd.R_below (Kd.R_mono (Kd.R_far (p := ⟨gb268, 4, none⟩) (Kd.R_far (p := ⟨gb268, 3, none⟩) (Kd.R_far (p := ⟨gb268, 2, none⟩) (Kd.R_far (p := ⟨gb268, 1, none⟩) (Kd.R_far (p := ⟨gb268, 0, none⟩) (Kd.R_types HO264.out BK268.out (by decide)) (fun _ hk => hk.2) (.int .i64 t259)) (fun _ hk => hk.2) (.int .i64 t260)) (fun _ hk => hk.2) (.int .i64 t261)) (fun _ hk => hk.2) (.slice Ao104 t262.length co104)) (fun _ hk => hk.2) (.slice Ao105 t265.length co105)) (fun _ h_ => h_.1)) hb); replace HO267 := Aside0.mk (Kd.R_below (Kd.R_mono (Kd.R_far (p := ⟨gb268, 4, none⟩) (Kd.R_far (p := ⟨gb268, 3, none⟩) (Kd.R_far (p := ⟨gb268, 2, none⟩) (Kd.R_far (p := ⟨gb268, 1, none⟩) (Kd.R_far (p := ⟨gb268, 0, none⟩) (Kd.R_types HO267.out BK268.out (by decide)) (fun _ hk => hk.2) (.int .i64 t259)) (fun _ hk => hk.2) (.int .i64 t260)) (fun _ hk => hk.2) (.int .i64 t261)) (fun _ hk => hk.2) (.slice Ao104 t262.length co104)) (fun _ hk => hk.2) (.slice Ao105 t265.length co105)) (fun _ h_ => h_.1)) hb); replace BK207 := Aside0.mk (blk_below (g := gb207) (o := .cells #[.int .i64 a0_0, .int .i64 a0_1, .int .i64 a0_2, .slice A0_3 l0_3.length c0_3, .slice A0_4 l0_4.length c0_4] 24 (0, 0)) (by (with_reducible repeat (first | refine blk_drewN ?_ _ | refine blk_drew ?_ | refine blk_alloc ?_ _)); refine blk_far ?_ NB207_268.out _; (with_reducible repeat (first | refine blk_drewN ?_ _ | refine blk_drew ?_ | refine blk_alloc ?_ _)); refine blk_far ?_ NB207_268.out _; (with_reducible repeat (first | refine blk_drewN ?_ _ | refine blk_drew ?_ | refine blk_alloc ?_ _)); refine blk_far ?_ NB207_268.out _; (with_reducible repeat (first | refine blk_drewN ?_ _ | refine blk_drew ?_ | refine blk_alloc ?_ _)); refine blk_far ?_ NB207_268.out _; (with_reducible repeat (first | refine blk_drewN ?_ _ | refine blk_drew ?_ | refine blk_alloc ?_ _)); refine blk_far ?_ NB207_268.out _; (with_reducible repeat (first | refine blk_drewN ?_ _ | refine blk_drew ?_ | refine blk_alloc ?_ _)); exact BK207.out) hb); replace BK208 := Aside0.mk (blk_below (g := gb208) (o := .cells #[.int .i64 a1_0, .int .i64 a1_1, .int .i64 a1_2, .slice A1_3 l1_3.length c1_3, .slice A1_4 l1_4.length c1_4] 24 (0, 0)) (by (with_reducible repeat (first | refine blk_drewN ?_ _ | refine blk_drew ?_ | refine blk_alloc ?_ _)); refine blk_far ?_ NB208_268.out _; (with_reducible repeat (first | refine blk_drewN ?_ _ | refine blk_drew ?_ | refine blk_alloc ?_ _)); refine blk_far ?_ NB208_268.out _; (with_reducible repeat (first | refine blk_drewN ?_ _ | refine blk_drew ?_ | refine blk_alloc ?_ _)); refine blk_far ?_ NB208_268.out _; (with_reducible repeat (first | refine blk_drewN ?_ _ | refine blk_drew ?_ | refine blk_alloc ?_ _)); refine blk_far ?_ NB208_268.out _; (with_reducible repeat (first | refine blk_drewN ?_ _ | refine blk_drew ?_ | refine blk_alloc ?_ _)); refine blk_far ?_ NB208_268.out _; (with_reducible repeat (first | refine blk_drewN ?_ _ | refine blk_drew ?_ | refine blk_alloc ?_ _)); exact BK208.out) hb); replace BK238 := Aside0.mk (blk_below (g := gb238) (o := .cells #[.int .i64 t229, .int .i64 t230, .int .i64 t231, .slice Ao70 t232.length co70, .slice Ao72 t235.length co72] 27 (0, 0)) (by (with_reducible repeat (first | refine blk_drewN ?_ _ | refine blk_drew ?_ | refine blk_alloc ?_ _)); refine blk_far ?_ NB238_268.out _; (with_reducible repeat (first | refine blk_drewN ?_ _ | refine blk_drew ?_ | refine blk_alloc ?_ _)); refine blk_far ?_ NB238_268.out _; (with_reducible repeat (first | refine blk_drewN ?_ _ | refine blk_drew ?_ | refine blk_alloc ?_ _)); refine blk_far ?_ NB238_268.out _; (with_reducible repeat (first | refine blk_drewN ?_ _ | refine blk_drew ?_ | refine blk_alloc ?_ _)); refine blk_far ?_ NB238_268.out _; (with_reducible repeat (first | refine blk_drewN ?_ _ | refine blk_drew ?_ | refine blk_alloc ?_ _)); refine blk_far ?_ NB238_268.out _; (with_reducible repeat (first | refine blk_drewN ?_ _ | refine blk_drew ?_ | refine blk_alloc ?_ _)); exact BK238.out) hb); replace BK248 := Aside0.mk (blk_below (g := gb248) (o := .cells #[.int .i64 t239, .int .i64 t240, .int .i64 t241, .slice Ao82 t242.length co82, .slice Ao83 t245.length co83] 27 (0, 0)) (by (with_reducible repeat (first | refine blk_drewN ?_ _ | refine blk_drew ?_ | refine blk_alloc ?_ _)); refine blk_far ?_ NB248_268.out _; (with_reducible repeat (first | refine blk_drewN ?_ _ | refine blk_drew ?_ | refine blk_alloc ?_ _)); refine blk_far ?_ NB248_268.out _; (with_reducible repeat (first | refine blk_drewN ?_ _ | refine blk_drew ?_ | refine blk_alloc ?_ _)); refine blk_far ?_ NB248_268.out _; (with_reducible repeat (first | refine blk_drewN ?_ _ | refine blk_drew ?_ | refine blk_alloc ?_ _)); refine blk_far ?_ NB248_268.out _; (with_reducible repeat (first | refine blk_drewN ?_ _ | refine blk_drew ?_ | refine blk_alloc ?_ _)); refine blk_far ?_ NB248_268.out _; (with_reducible repeat (first | refine blk_drewN ?_ _ | refine blk_drew ?_ | refine blk_alloc ?_ _)); exact BK248.out) hb); replace BK258 := Aside0.mk (blk_below (g := gb258) (o := .cells #[.int .i64 t249, .int .i64 t250, .int .i64 t251, .slice Ao93 t252.length co93, .slice Ao94 t255.length co94] 27 (0, 0)) (by (with_reducible repeat (first | refine blk_drewN ?_ _ | refine blk_drew ?_ | refine blk_alloc ?_ _)); refine blk_far ?_ NB258_268.out _; (with_reducible repeat (first | refine blk_drewN ?_ _ | refine blk_drew ?_ | refine blk_alloc ?_ _)); refine blk_far ?_ NB258_268.out _; (with_reducible repeat (first | refine blk_drewN ?_ _ | refine blk_drew ?_ | refine blk_alloc ?_ _)); refine blk_far ?_ NB258_268.out _; (with_reducible repeat (first | refine blk_drewN ?_ _ | refine blk_drew ?_ | refine blk_alloc ?_ _)); refine blk_far ?_ NB258_268.out _; (with_reducible repeat (first | refine blk_drewN ?_ _ | refine blk_drew ?_ | refine blk_alloc ?_ _)); refine blk_far ?_ NB258_268.out _; (with_reducible repeat (first | refine blk_drewN ?_ _ | refine blk_drew ?_ | refine blk_alloc ?_ _)); exact BK258.out) hb); replace BK268 := Aside0.mk (blk_below (g := gb268) (o := .cells #[.int .i64 t259, .int .i64 t260, .int .i64 t261, .slice Ao104 t262.length co104, .slice Ao105 t265.length co105] 27 (0, 0)) (by (with_reducible repeat (first | refine blk_drewN ?_ _ | refine blk_drew ?_ | refine blk_alloc ?_ _)); refine blk_put (cs := #[.int .i64 t259, .int .i64 t260, .int .i64 t261, .slice Ao104 t262.length co104, .slice none 0 0]) ?_ 4 _ rfl; (with_reducible repeat (first | refine blk_drewN ?_ _ | refine blk_drew ?_ | refine blk_alloc ?_ _)); refine blk_put (cs := #[.int .i64 t259, .int .i64 t260, .int .i64 t261, .slice none 0 0, .slice none 0 0]) ?_ 3 _ rfl; (with_reducible repeat (first | refine blk_drewN ?_ _ | refine blk_drew ?_ | refine blk_alloc ?_ _)); refine blk_put (cs := #[.int .i64 t259, .int .i64 t260, .int .i64 0, .slice none 0 0, .slice none 0 0]) ?_ 2 _ rfl; (with_reducible repeat (first | refine blk_drewN ?_ _ | refine blk_drew ?_ | refine blk_alloc ?_ _)); refine blk_put (cs := #[.int .i64 t259, .int .i64 0, .int .i64 0, .slice none 0 0, .slice none 0 0]) ?_ 1 _ rfl; (with_reducible repeat (first | refine blk_drewN ?_ _ | refine blk_drew ?_ | refine blk_alloc ?_ _)); refine blk_put (cs := #[.int .i64 0, .int .i64 0, .int .i64 0, .slice none 0 0, .slice none 0 0]) ?_ 0 _ rfl; (with_reducible repeat (first | refine blk_drewN ?_ _ | refine blk_drew ?_ | refine blk_alloc ?_ _)); exact BK268.out) hb); replace HB := Aside0.mk (below_step (by repeat (first | (with_reducible first | exact HB.out | apply below_alloc | apply pw_below_drewN | apply below_drew1 | refine below_set ?_ GE207.out | refine below_set ?_ GE208.out | refine below_set ?_ GE238.out | refine below_set ?_ GE248.out | refine below_set ?_ GE258.out | refine below_set ?_ GE268.out) | exact HB.out)) hb); (try clear hb); (try clear hb2); (try clear hk); (try clear hi)))
      replace HO234 := Aside0.mk (Kd.R_drew HO234.out)
      replace HO237 := Aside0.mk (Kd.R_drew HO237.out)
      replace HO244 := Aside0.mk (Kd.R_drew HO244.out)
      replace HO247 := Aside0.mk (Kd.R_drew HO247.out)
      replace HO254 := Aside0.mk (Kd.R_drew HO254.out)
      replace HO257 := Aside0.mk (Kd.R_drew HO257.out)
      replace HO264 := Aside0.mk (Kd.R_drew HO264.out)
      replace HO267 := Aside0.mk (Kd.R_drew HO267.out)
      replace BK207 := Aside0.mk (blk_drew BK207.out)
      replace BK208 := Aside0.mk (blk_drew BK208.out)
      replace BK238 := Aside0.mk (blk_drew BK238.out)
      replace BK248 := Aside0.mk (blk_drew BK248.out)
      replace BK258 := Aside0.mk (blk_drew BK258.out)
      replace BK268 := Aside0.mk (blk_drew BK268.out)
      replace HB := Aside0.mk (below_drew1 HB.out)
      refine start_ (n := 5) (S := fun w' => w'.cell? ⟨gb248, 0, none⟩ = some (.int .i64 t239) ∧ w'.cell? ⟨gb248, 1, none⟩ = some (.int .i64 t240) ∧ w'.cell? ⟨gb248, 2, none⟩ = some (.int .i64 t241) ∧ w'.cell? ⟨gb248, 3, none⟩ = some (.slice Ao82 t242.length co82) ∧ w'.cell? ⟨gb248, 4, none⟩ = some (.slice Ao83 t245.length co83) ∧ w'.cell? ⟨gb207, 0, none⟩ = some (.int .i64 a0_0) ∧ w'.cell? ⟨gb207, 1, none⟩ = some (.int .i64 a0_1) ∧ w'.cell? ⟨gb207, 2, none⟩ = some (.int .i64 a0_2) ∧ w'.cell? ⟨gb207, 3, none⟩ = some (.slice A0_3 l0_3.length c0_3) ∧ w'.cell? ⟨gb207, 4, none⟩ = some (.slice A0_4 l0_4.length c0_4)) (ds := []) #[false, false, false, false, false] (by kernel_rfl) rfl rfl ⟨(blk_cell BK248.out 0).trans rfl, (blk_cell BK248.out 1).trans rfl, (blk_cell BK248.out 2).trans rfl, (blk_cell BK248.out 3).trans rfl, (blk_cell BK248.out 4).trans rfl, (blk_cell BK207.out 0).trans rfl, (blk_cell BK207.out 1).trans rfl, (blk_cell BK207.out 2).trans rfl, (blk_cell BK207.out 3).trans rfl, (blk_cell BK207.out 4).trans rfl⟩ (fun hHeld => ?_)
      generalize w107.drew = w108 at HO234 HO237 HO244 HO247 HO254 HO257 HO264 HO267 BK207 BK208 BK238 BK248 BK258 BK268 HB hHeld ⊢
      refine take_ (i := 0) (N := some 40) (v := ?_) (a' := ?_) #[true, false, false, false, false] rfl rfl (by kernel_rfl) (fun _ _ _ h => h) (Or.inl ⟨by rfl, ?_⟩) hHeld ?_ ?_
      rotate_left
      ·rintro w' ⟨s0, s1, s2, s3, s4, s5, s6, s7, s8, s9⟩
       go_simp
       with_reducible rfl
      rotate_left
      ·simp only [Act.put, List.setIfInBounds_toArray, List.set_cons_zero, List.set_cons_succ, i64_w, i32_w]
       rfl
      refine take_ (i := 1) (N := some 41) (v := ?_) (a' := ?_) #[true, true, false, false, false] rfl rfl (by kernel_rfl) (fun _ _ _ h => h) (Or.inl ⟨by rfl, ?_⟩) hHeld ?_ ?_
      rotate_left
      ·rintro w' ⟨s0, s1, s2, s3, s4, s5, s6, s7, s8, s9⟩
       go_simp
       with_reducible rfl
      rotate_left
      ·simp only [Act.put, List.setIfInBounds_toArray, List.set_cons_zero, List.set_cons_succ, i64_w, i32_w]
       rfl
      refine one_ (i := 2) (N := some 42) #[true, true, true, false, false] rfl rfl (by kernel_rfl) (by decide) (fun K hK => ?_)
      refine goes_ Try.func13 (by kernel_rfl) rfl #[.agg #[.int .i64 a0_0, .int .i64 a0_1, .int .i64 a0_2, .slice A0_3 l0_3.length c0_3, .slice A0_4 l0_4.length c0_4]] (by rfl) rfl rfl (by (try simp only [List.map_toArray, List.map_cons, List.map_nil]); first | done | rfl) ?_
      with_reducible refine (laws_toPattern.calls k a0_0 a0_1 a0_2 _ _ l0_3 _ _ l0_4 t270 t271 t272 t273 t276 _ ?side1 ?side2 ?side3 ?side4 A27.out).mono ?_
      (case side1 => exact (Kd.C_below HR0_3.out HB.out))
      (case side2 => exact HC0_3.out)
      (case side3 => exact (Kd.C_below HR0_4.out HB.out))
      (case side4 => exact HC0_4.out)
      rintro e w109 ⟨v274, v277, rfl, ho0, ho1, hb⟩
      refine ⟨_, rfl, ?_⟩
      have HO275 := Aside0.mk (Kd.R_lower (Kd.R_new' (Kd.R_new' (Kd.R_new' (Kd.R_new' (Kd.R_new' (Kd.R_new' (Kd.R_new' (Kd.R_new' ho0 (Kd.R_lt HO234.out)) (Kd.R_lt HO237.out)) (Kd.R_lt HO244.out)) (Kd.R_lt HO247.out)) (Kd.R_lt HO254.out)) (Kd.R_lt HO257.out)) (Kd.R_lt HO264.out)) (Kd.R_lt HO267.out)) (below_size HB.out))
      have HO278 := Aside0.mk (Kd.R_lower (Kd.R_new' (Kd.R_new' (Kd.R_new' (Kd.R_new' (Kd.R_new' (Kd.R_new' (Kd.R_new' (Kd.R_new' ho1 (Kd.R_lt HO234.out)) (Kd.R_lt HO237.out)) (Kd.R_lt HO244.out)) (Kd.R_lt HO247.out)) (Kd.R_lt HO254.out)) (Kd.R_lt HO257.out)) (Kd.R_lt HO264.out)) (Kd.R_lt HO267.out)) (below_size HB.out))
      replace HO234 := Aside0.mk (Kd.R_mono (Kd.R_told (Kd.R_told (Kd.R_old HO234.out hb) (Kd.R_base ho0)) (Kd.R_base ho1)) (fun _ h_ => h_.1))
      replace HO237 := Aside0.mk (Kd.R_mono (Kd.R_told (Kd.R_told (Kd.R_old HO237.out hb) (Kd.R_base ho0)) (Kd.R_base ho1)) (fun _ h_ => h_.1))
      replace HO244 := Aside0.mk (Kd.R_mono (Kd.R_told (Kd.R_told (Kd.R_old HO244.out hb) (Kd.R_base ho0)) (Kd.R_base ho1)) (fun _ h_ => h_.1))
      replace HO247 := Aside0.mk (Kd.R_mono (Kd.R_told (Kd.R_told (Kd.R_old HO247.out hb) (Kd.R_base ho0)) (Kd.R_base ho1)) (fun _ h_ => h_.1))
      replace HO254 := Aside0.mk (Kd.R_mono (Kd.R_told (Kd.R_told (Kd.R_old HO254.out hb) (Kd.R_base ho0)) (Kd.R_base ho1)) (fun _ h_ => h_.1))
      replace HO257 := Aside0.mk (Kd.R_mono (Kd.R_told (Kd.R_told (Kd.R_old HO257.out hb) (Kd.R_base ho0)) (Kd.R_base ho1)) (fun _ h_ => h_.1))
      replace HO264 := Aside0.mk (Kd.R_mono (Kd.R_told (Kd.R_told (Kd.R_old HO264.out hb) (Kd.R_base ho0)) (Kd.R_base ho1)) (fun _ h_ => h_.1))
      replace HO267 := Aside0.mk (Kd.R_mono (Kd.R_told (Kd.R_told (Kd.R_old HO267.out hb) (Kd.R_base ho0)) (Kd.R_base ho1)) (fun _ h_ => h_.1))
      replace BK207 := Aside0.mk (blk_below BK207.out hb)
      replace BK208 := Aside0.mk (blk_below BK208.out hb)
      replace BK238 := Aside0.mk (blk_below BK238.out hb)
      replace BK248 := Aside0.mk (blk_below BK248.out hb)
      replace BK258 := Aside0.mk (blk_below BK258.out hb)
      replace BK268 := Aside0.mk (blk_below BK268.out hb)
      replace HB := Aside0.mk (below_step HB.out hb)
      (try clear hb)
      (try clear hb2)
      (try clear hk)
      (try clear hi)
      (try clear ho0)
      (try clear ho1)
      obtain ⟨Ao110, co110, eo110⟩ := Kd.R_slice HO275.out
      (first | subst eo110 | (injection eo110 with f1_ f2_ f3_; have f4_ := f1_.symm; have f5_ := f3_.symm; clear f1_ f2_ f3_; subst f4_; subst f5_))
      obtain ⟨Ao111, co111, eo111⟩ := Kd.R_slice HO278.out
      (first | subst eo111 | (injection eo111 with f1_ f2_ f3_; have f4_ := f1_.symm; have f5_ := f3_.symm; clear f1_ f2_ f3_; subst f4_; subst f5_))
      refine hK.out _ _ ⟨(blk_cell BK248.out 0).trans rfl, (blk_cell BK248.out 1).trans rfl, (blk_cell BK248.out 2).trans rfl, (blk_cell BK248.out 3).trans rfl, (blk_cell BK248.out 4).trans rfl, (blk_cell BK207.out 0).trans rfl, (blk_cell BK207.out 1).trans rfl, (blk_cell BK207.out 2).trans rfl, (blk_cell BK207.out 3).trans rfl, (blk_cell BK207.out 4).trans rfl⟩ (fun hHeld => ?_)
      clear hK K
      refine norm_ (a' := ?_) ?_ ?_
      rotate_left
      ·show Act.put _ (some 42) _ = _
       simp only [Act.put, List.setIfInBounds_toArray, List.set_cons_zero, List.set_cons_succ, i64_w, i32_w]
       rfl
      refine one_ (i := 3) (N := some 43) #[true, true, true, true, false] rfl rfl (by kernel_rfl) (by decide) (fun K hK => ?_)
      refine goes_ Try.func15 (by kernel_rfl) rfl #[.agg #[.int .i64 t239, .int .i64 t240, .int .i64 t241, .slice Ao82 t242.length co82, .slice Ao83 t245.length co83], .agg #[.int .i64 t270, .int .i64 t271, .int .i64 t272, .slice Ao110 t273.length co110, .slice Ao111 t276.length co111]] (by rfl) rfl rfl (by (try simp only [List.map_toArray, List.map_cons, List.map_nil]); first | done | rfl) ?_
      with_reducible refine (laws_eqPattern.calls k t239 t240 t241 _ _ t242 _ _ t245 t270 t271 t272 _ _ t273 _ _ t276 true _ ?side1 ?side2 ?side3 ?side4 ?side5 ?side6 ?side7 ?side8 A28.out).mono ?_
      (case side1 => exact (Kd.R_reads' HO244.out).2.2)
      (case side2 => exact (Kd.R_reads' HO244.out).2.1)
      (case side3 => exact (Kd.R_reads' HO247.out).2.2)
      (case side4 => exact (Kd.R_reads' HO247.out).2.1)
      (case side5 => exact (Kd.R_reads' HO275.out).2.2)
      (case side6 => exact (Kd.R_reads' HO275.out).2.1)
      (case side7 => exact (Kd.R_reads' HO278.out).2.2)
      (case side8 => exact (Kd.R_reads' HO278.out).2.1)
      rintro e w112 ⟨rfl, hb⟩
      refine ⟨_, rfl, ?_⟩
      replace HO234 := Aside0.mk (Kd.R_below HO234.out hb)
      replace HO237 := Aside0.mk (Kd.R_below HO237.out hb)
      replace HO244 := Aside0.mk (Kd.R_below HO244.out hb)
      replace HO247 := Aside0.mk (Kd.R_below HO247.out hb)
      replace HO254 := Aside0.mk (Kd.R_below HO254.out hb)
      replace HO257 := Aside0.mk (Kd.R_below HO257.out hb)
      replace HO264 := Aside0.mk (Kd.R_below HO264.out hb)
      replace HO267 := Aside0.mk (Kd.R_below HO267.out hb)
      replace HO275 := Aside0.mk (Kd.R_below HO275.out hb)
      replace HO278 := Aside0.mk (Kd.R_below HO278.out hb)
      replace BK207 := Aside0.mk (blk_below BK207.out hb)
      replace BK208 := Aside0.mk (blk_below BK208.out hb)
      replace BK238 := Aside0.mk (blk_below BK238.out hb)
      replace BK248 := Aside0.mk (blk_below BK248.out hb)
      replace BK258 := Aside0.mk (blk_below BK258.out hb)
      replace BK268 := Aside0.mk (blk_below BK268.out hb)
      replace HB := Aside0.mk (below_step HB.out hb)
      (try clear hb)
      (try clear hb2)
      (try clear hk)
      (try clear hi)
      refine hK.out _ _ ⟨(blk_cell BK248.out 0).trans rfl, (blk_cell BK248.out 1).trans rfl, (blk_cell BK248.out 2).trans rfl, (blk_cell BK248.out 3).trans rfl, (blk_cell BK248.out 4).trans rfl, (blk_cell BK207.out 0).trans rfl, (blk_cell BK207.out 1).trans rfl, (blk_cell BK207.out 2).trans rfl, (blk_cell BK207.out 3).trans rfl, (blk_cell BK207.out 4).trans rfl⟩ (fun hHeld => ?_)
      clear hK K
      refine norm_ (a' := ?_) ?_ ?_
      rotate_left
      ·show Act.put _ (some 43) _ = _
       simp only [Act.put, List.setIfInBounds_toArray, List.set_cons_zero, List.set_cons_succ, i64_w, i32_w]
       rfl
      refine pure_ (i := 4) (N := some 44) (v := ?_) (a' := ?_) #[true, true, true, true, true] rfl rfl (by kernel_rfl) (fun _ _ _ h => h) (Or.inl ⟨by rfl, ?_⟩) ?_ ?_
      rotate_left
      ·intro w'
       go_simp
       with_reducible rfl
      rotate_left
      ·simp only [Act.put, List.setIfInBounds_toArray, List.set_cons_zero, List.set_cons_succ, i64_w, i32_w]
       rfl
      refine done_ (by kernel_rfl) ?_
      try go_wp2
      replace HO234 := Aside0.mk (Kd.R_drew HO234.out)
      replace HO237 := Aside0.mk (Kd.R_drew HO237.out)
      replace HO244 := Aside0.mk (Kd.R_drew HO244.out)
      replace HO247 := Aside0.mk (Kd.R_drew HO247.out)
      replace HO254 := Aside0.mk (Kd.R_drew HO254.out)
      replace HO257 := Aside0.mk (Kd.R_drew HO257.out)
      replace HO264 := Aside0.mk (Kd.R_drew HO264.out)
      replace HO267 := Aside0.mk (Kd.R_drew HO267.out)
      replace BK207 := Aside0.mk (blk_drew BK207.out)
      replace BK208 := Aside0.mk (blk_drew BK208.out)
      replace BK238 := Aside0.mk (blk_drew BK238.out)
      replace BK248 := Aside0.mk (blk_drew BK248.out)
      replace BK258 := Aside0.mk (blk_drew BK258.out)
      replace BK268 := Aside0.mk (blk_drew BK268.out)
      replace HB := Aside0.mk (below_drew1 HB.out)
      refine start_ (n := 5) (S := fun w' => w'.cell? ⟨gb258, 0, none⟩ = some (.int .i64 t249) ∧ w'.cell? ⟨gb258, 1, none⟩ = some (.int .i64 t250) ∧ w'.cell? ⟨gb258, 2, none⟩ = some (.int .i64 t251) ∧ w'.cell? ⟨gb258, 3, none⟩ = some (.slice Ao93 t252.length co93) ∧ w'.cell? ⟨gb258, 4, none⟩ = some (.slice Ao94 t255.length co94) ∧ w'.cell? ⟨gb208, 0, none⟩ = some (.int .i64 a1_0) ∧ w'.cell? ⟨gb208, 1, none⟩ = some (.int .i64 a1_1) ∧ w'.cell? ⟨gb208, 2, none⟩ = some (.int .i64 a1_2) ∧ w'.cell? ⟨gb208, 3, none⟩ = some (.slice A1_3 l1_3.length c1_3) ∧ w'.cell? ⟨gb208, 4, none⟩ = some (.slice A1_4 l1_4.length c1_4)) (ds := []) #[false, false, false, false, false] (by kernel_rfl) rfl rfl ⟨(blk_cell BK258.out 0).trans rfl, (blk_cell BK258.out 1).trans rfl, (blk_cell BK258.out 2).trans rfl, (blk_cell BK258.out 3).trans rfl, (blk_cell BK258.out 4).trans rfl, (blk_cell BK208.out 0).trans rfl, (blk_cell BK208.out 1).trans rfl, (blk_cell BK208.out 2).trans rfl, (blk_cell BK208.out 3).trans rfl, (blk_cell BK208.out 4).trans rfl⟩ (fun hHeld => ?_)
      generalize w112.drew = w113 at HO234 HO237 HO244 HO247 HO254 HO257 HO264 HO267 BK207 BK208 BK238 BK248 BK258 BK268 HB hHeld ⊢
      refine take_ (i := 0) (N := some 45) (v := ?_) (a' := ?_) #[true, false, false, false, false] rfl rfl (by kernel_rfl) (fun _ _ _ h => h) (Or.inl ⟨by rfl, ?_⟩) hHeld ?_ ?_
      rotate_left
      ·rintro w' ⟨s0, s1, s2, s3, s4, s5, s6, s7, s8, s9⟩
       go_simp
       with_reducible rfl
      rotate_left
      ·simp only [Act.put, List.setIfInBounds_toArray, List.set_cons_zero, List.set_cons_succ, i64_w, i32_w]
       rfl
      refine take_ (i := 1) (N := some 46) (v := ?_) (a' := ?_) #[true, true, false, false, false] rfl rfl (by kernel_rfl) (fun _ _ _ h => h) (Or.inl ⟨by rfl, ?_⟩) hHeld ?_ ?_
      rotate_left
      ·rintro w' ⟨s0, s1, s2, s3, s4, s5, s6, s7, s8, s9⟩
       go_simp
       with_reducible rfl
      rotate_left
      ·simp only [Act.put, List.setIfInBounds_toArray, List.set_cons_zero, List.set_cons_succ, i64_w, i32_w]
       rfl
      refine one_ (i := 2) (N := some 47) #[true, true, true, false, false] rfl rfl (by kernel_rfl) (by decide) (fun K hK => ?_)
      refine goes_ Try.func13 (by kernel_rfl) rfl #[.agg #[.int .i64 a1_0, .int .i64 a1_1, .int .i64 a1_2, .slice A1_3 l1_3.length c1_3, .slice A1_4 l1_4.length c1_4]] (by rfl) rfl rfl (by (try simp only [List.map_toArray, List.map_cons, List.map_nil]); first | done | rfl) ?_
      with_reducible refine (laws_toPattern.calls k a1_0 a1_1 a1_2 _ _ l1_3 _ _ l1_4 t280 t281 t282 t283 t286 _ ?side1 ?side2 ?side3 ?side4 A30.out).mono ?_
      (case side1 => exact (Kd.C_below HR1_3.out HB.out))
      (case side2 => exact HC1_3.out)
      (case side3 => exact (Kd.C_below HR1_4.out HB.out))
      (case side4 => exact HC1_4.out)
      rintro e w114 ⟨v284, v287, rfl, ho0, ho1, hb⟩
      refine ⟨_, rfl, ?_⟩
      have HO285 := Aside0.mk (Kd.R_lower (Kd.R_new' (Kd.R_new' (Kd.R_new' (Kd.R_new' (Kd.R_new' (Kd.R_new' (Kd.R_new' (Kd.R_new' ho0 (Kd.R_lt HO234.out)) (Kd.R_lt HO237.out)) (Kd.R_lt HO244.out)) (Kd.R_lt HO247.out)) (Kd.R_lt HO254.out)) (Kd.R_lt HO257.out)) (Kd.R_lt HO264.out)) (Kd.R_lt HO267.out)) (below_size HB.out))
      have HO288 := Aside0.mk (Kd.R_lower (Kd.R_new' (Kd.R_new' (Kd.R_new' (Kd.R_new' (Kd.R_new' (Kd.R_new' (Kd.R_new' (Kd.R_new' ho1 (Kd.R_lt HO234.out)) (Kd.R_lt HO237.out)) (Kd.R_lt HO244.out)) (Kd.R_lt HO247.out)) (Kd.R_lt HO254.out)) (Kd.R_lt HO257.out)) (Kd.R_lt HO264.out)) (Kd.R_lt HO267.out)) (below_size HB.out))
      replace HO234 := Aside0.mk (Kd.R_mono (Kd.R_told (Kd.R_told (Kd.R_old HO234.out hb) (Kd.R_base ho0)) (Kd.R_base ho1)) (fun _ h_ => h_.1))
      replace HO237 := Aside0.mk (Kd.R_mono (Kd.R_told (Kd.R_told (Kd.R_old HO237.out hb) (Kd.R_base ho0)) (Kd.R_base ho1)) (fun _ h_ => h_.1))
      replace HO244 := Aside0.mk (Kd.R_mono (Kd.R_told (Kd.R_told (Kd.R_old HO244.out hb) (Kd.R_base ho0)) (Kd.R_base ho1)) (fun _ h_ => h_.1))
      replace HO247 := Aside0.mk (Kd.R_mono (Kd.R_told (Kd.R_told (Kd.R_old HO247.out hb) (Kd.R_base ho0)) (Kd.R_base ho1)) (fun _ h_ => h_.1))
      replace HO254 := Aside0.mk (Kd.R_mono (Kd.R_told (Kd.R_told (Kd.R_old HO254.out hb) (Kd.R_base ho0)) (Kd.R_base ho1)) (fun _ h_ => h_.1))
      replace HO257 := Aside0.mk (Kd.R_mono (Kd.R_told (Kd.R_told (Kd.R_old HO257.out hb) (Kd.R_base ho0)) (Kd.R_base ho1)) (fun _ h_ => h_.1))
      replace HO264 := Aside0.mk (Kd.R_mono (Kd.R_told (Kd.R_told (Kd.R_old HO264.out hb) (Kd.R_base ho0)) (Kd.R_base ho1)) (fun _ h_ => h_.1))
      replace HO267 := Aside0.mk (Kd.R_mono (Kd.R_told (Kd.R_told (Kd.R_old HO267.out hb) (Kd.R_base ho0)) (Kd.R_base ho1)) (fun _ h_ => h_.1))
      replace BK207 := Aside0.mk (blk_below BK207.out hb)
      replace BK208 := Aside0.mk (blk_below BK208.out hb)
      replace BK238 := Aside0.mk (blk_below BK238.out hb)
      replace BK248 := Aside0.mk (blk_below BK248.out hb)
      replace BK258 := Aside0.mk (blk_below BK258.out hb)
      replace BK268 := Aside0.mk (blk_below BK268.out hb)
      replace HB := Aside0.mk (below_step HB.out hb)
      (try clear hb)
      (try clear hb2)
      (try clear hk)
      (try clear hi)
      (try clear ho0)
      (try clear ho1)
      obtain ⟨Ao115, co115, eo115⟩ := Kd.R_slice HO285.out
      (first | subst eo115 | (injection eo115 with f1_ f2_ f3_; have f4_ := f1_.symm; have f5_ := f3_.symm; clear f1_ f2_ f3_; subst f4_; subst f5_))
      obtain ⟨Ao116, co116, eo116⟩ := Kd.R_slice HO288.out
      (first | subst eo116 | (injection eo116 with f1_ f2_ f3_; have f4_ := f1_.symm; have f5_ := f3_.symm; clear f1_ f2_ f3_; subst f4_; subst f5_))
      refine hK.out _ _ ⟨(blk_cell BK258.out 0).trans rfl, (blk_cell BK258.out 1).trans rfl, (blk_cell BK258.out 2).trans rfl, (blk_cell BK258.out 3).trans rfl, (blk_cell BK258.out 4).trans rfl, (blk_cell BK208.out 0).trans rfl, (blk_cell BK208.out 1).trans rfl, (blk_cell BK208.out 2).trans rfl, (blk_cell BK208.out 3).trans rfl, (blk_cell BK208.out 4).trans rfl⟩ (fun hHeld => ?_)
      clear hK K
      refine norm_ (a' := ?_) ?_ ?_
      rotate_left
      ·show Act.put _ (some 47) _ = _
       simp only [Act.put, List.setIfInBounds_toArray, List.set_cons_zero, List.set_cons_succ, i64_w, i32_w]
       rfl
      refine one_ (i := 3) (N := some 48) #[true, true, true, true, false] rfl rfl (by kernel_rfl) (by decide) (fun K hK => ?_)
      refine goes_ Try.func15 (by kernel_rfl) rfl #[.agg #[.int .i64 t249, .int .i64 t250, .int .i64 t251, .slice Ao93 t252.length co93, .slice Ao94 t255.length co94], .agg #[.int .i64 t280, .int .i64 t281, .int .i64 t282, .slice Ao115 t283.length co115, .slice Ao116 t286.length co116]] (by rfl) rfl rfl (by (try simp only [List.map_toArray, List.map_cons, List.map_nil]); first | done | rfl) ?_
      with_reducible refine (laws_eqPattern.calls k t249 t250 t251 _ _ t252 _ _ t255 t280 t281 t282 _ _ t283 _ _ t286 true _ ?side1 ?side2 ?side3 ?side4 ?side5 ?side6 ?side7 ?side8 A31.out).mono ?_
      (case side1 => exact (Kd.R_reads' HO254.out).2.2)
      (case side2 => exact (Kd.R_reads' HO254.out).2.1)
      (case side3 => exact (Kd.R_reads' HO257.out).2.2)
      (case side4 => exact (Kd.R_reads' HO257.out).2.1)
      (case side5 => exact (Kd.R_reads' HO285.out).2.2)
      (case side6 => exact (Kd.R_reads' HO285.out).2.1)
      (case side7 => exact (Kd.R_reads' HO288.out).2.2)
      (case side8 => exact (Kd.R_reads' HO288.out).2.1)
      rintro e w117 ⟨rfl, hb⟩
      refine ⟨_, rfl, ?_⟩
      replace HO234 := Aside0.mk (Kd.R_below HO234.out hb)
      replace HO237 := Aside0.mk (Kd.R_below HO237.out hb)
      replace HO244 := Aside0.mk (Kd.R_below HO244.out hb)
      replace HO247 := Aside0.mk (Kd.R_below HO247.out hb)
      replace HO254 := Aside0.mk (Kd.R_below HO254.out hb)
      replace HO257 := Aside0.mk (Kd.R_below HO257.out hb)
      replace HO264 := Aside0.mk (Kd.R_below HO264.out hb)
      replace HO267 := Aside0.mk (Kd.R_below HO267.out hb)
      replace HO285 := Aside0.mk (Kd.R_below HO285.out hb)
      replace HO288 := Aside0.mk (Kd.R_below HO288.out hb)
      replace BK207 := Aside0.mk (blk_below BK207.out hb)
      replace BK208 := Aside0.mk (blk_below BK208.out hb)
      replace BK238 := Aside0.mk (blk_below BK238.out hb)
      replace BK248 := Aside0.mk (blk_below BK248.out hb)
      replace BK258 := Aside0.mk (blk_below BK258.out hb)
      replace BK268 := Aside0.mk (blk_below BK268.out hb)
      replace HB := Aside0.mk (below_step HB.out hb)
      (try clear hb)
      (try clear hb2)
      (try clear hk)
      (try clear hi)
      refine hK.out _ _ ⟨(blk_cell BK258.out 0).trans rfl, (blk_cell BK258.out 1).trans rfl, (blk_cell BK258.out 2).trans rfl, (blk_cell BK258.out 3).trans rfl, (blk_cell BK258.out 4).trans rfl, (blk_cell BK208.out 0).trans rfl, (blk_cell BK208.out 1).trans rfl, (blk_cell BK208.out 2).trans rfl, (blk_cell BK208.out 3).trans rfl, (blk_cell BK208.out 4).trans rfl⟩ (fun hHeld => ?_)
      clear hK K
      refine norm_ (a' := ?_) ?_ ?_
      rotate_left
      ·show Act.put _ (some 48) _ = _
       simp only [Act.put, List.setIfInBounds_toArray, List.set_cons_zero, List.set_cons_succ, i64_w, i32_w]
       rfl
      refine pure_ (i := 4) (N := some 49) (v := ?_) (a' := ?_) #[true, true, true, true, true] rfl rfl (by kernel_rfl) (fun _ _ _ h => h) (Or.inl ⟨by rfl, ?_⟩) ?_ ?_
      rotate_left
      ·intro w'
       go_simp
       with_reducible rfl
      rotate_left
      ·simp only [Act.put, List.setIfInBounds_toArray, List.set_cons_zero, List.set_cons_succ, i64_w, i32_w]
       rfl
      refine done_ (by kernel_rfl) ?_
      have hcz118_0 : w117.cell? ⟨gb248, 0, none⟩ = some (.int .i64 t239) := (blk_cell BK248.out 0).trans rfl
      have hcz118_1 : w117.cell? ⟨gb248, 1, none⟩ = some (.int .i64 t240) := (blk_cell BK248.out 1).trans rfl
      have hcz118_2 : w117.cell? ⟨gb248, 2, none⟩ = some (.int .i64 t241) := (blk_cell BK248.out 2).trans rfl
      have hcz118_3 : w117.cell? ⟨gb248, 3, none⟩ = some (.slice Ao82 t242.length co82) := (blk_cell BK248.out 3).trans rfl
      have hcz118_4 : w117.cell? ⟨gb248, 4, none⟩ = some (.slice Ao83 t245.length co83) := (blk_cell BK248.out 4).trans rfl
      have hfz118_0 := blk_frozen BK248.out 0
      have hfz118_1 := blk_frozen BK248.out 1
      have hfz118_2 := blk_frozen BK248.out 2
      have hfz118_3 := blk_frozen BK248.out 3
      have hfz118_4 := blk_frozen BK248.out 4
      try go_wp2_with (first | ((with_reducible refine gate_callee (f := 24) rfl ?_); refine goesL_ (some 52) rfl rfl Try.func24 (by kernel_rfl) rfl #[.agg #[.int .i64 t239, .int .i64 t240, .int .i64 t241, .slice Ao82 t242.length co82, .slice Ao83 t245.length co83], .int .i64 1] rfl (by (try simp only [List.map_toArray, List.map_cons, List.map_nil]); first | done | rfl) ?_; (with_reducible refine (laws_markPattern.calls k t239 t240 t241 (fun k_ => some k_ = (.slice Ao82 t242.length co82 : Value).ownBlock) (.slice Ao82 t242.length co82) t242 (fun k_ => some k_ = (.slice Ao83 t245.length co83 : Value).ownBlock) (.slice Ao83 t245.length co83) t245 1 t290 t291 t292 w _ ?side1 ?side2 ?side3 ?side4 ?side5 A33.out).mono ?_); (case side1 => exact HB.out); (case side2 => exact Kd.R_tight rfl HO244.out); (case side3 => exact fun k_ e_ => (HO244.out.1 k_ e_.symm).1.1.1.1.1.1.1.1.1.1); (case side4 => exact Kd.R_tight rfl HO247.out); (case side5 => exact fun k_ e_ => (HO247.out.1 k_ e_.symm).1.1.1.1.1.1.1.1.1.1); rintro e w119 ⟨rfl, hy0, hy1, hb, hkp⟩; refine ⟨_, rfl, ?_⟩; replace BK207 := Aside0.mk (blk_kept BK207.out hkp (fun hs_ => Or.elim hs_ (fun e_ => (fun e_ => (Kd.R_ne HO244.out BK207.out (by decide)) e_) e_) (fun e_ => (fun e_ => (Kd.R_ne HO247.out BK207.out (by decide)) e_) e_))); replace BK208 := Aside0.mk (blk_kept BK208.out hkp (fun hs_ => Or.elim hs_ (fun e_ => (fun e_ => (Kd.R_ne HO244.out BK208.out (by decide)) e_) e_) (fun e_ => (fun e_ => (Kd.R_ne HO247.out BK208.out (by decide)) e_) e_))); replace HO234 := Aside0.mk (Kd.R_mono (ok' := fun k_ => Nb_ k_ Ao72 t235 co72 ∧ Nb_ k_ Ao82 t242 co82 ∧ Nb_ k_ Ao83 t245 co83 ∧ Nb_ k_ Ao93 t252 co93 ∧ Nb_ k_ Ao94 t255 co94 ∧ Nb_ k_ Ao104 t262 co104 ∧ Nb_ k_ Ao105 t265 co105) (Kd.R_keptB (HO234.out) hkp (fun k_ hk_ hs_ => Or.elim hs_ (fun e_ => (hk_.1.1.1.1.1.1.1.1.1.2) e_) (fun e_ => (hk_.1.1.1.1.1.1.1.1.2) e_))) (fun k_ hk_ => ⟨hk_.1.1.1.1.1.1.1.1.1.1.1.2.2.2.2, hk_.1.1.1.1.1.1.1.1.1.1.2, hk_.1.1.1.1.1.1.1.1.1.2, hk_.1.1.1.1.1.1.1.1.2, hk_.1.1.1.1.1.1.1.2, hk_.1.1.1.1.1.1.2, hk_.1.1.1.1.1.2⟩)); replace HO237 := Aside0.mk (Kd.R_mono (ok' := fun k_ => Nb_ k_ Ao70 t232 co70 ∧ Nb_ k_ Ao82 t242 co82 ∧ Nb_ k_ Ao83 t245 co83 ∧ Nb_ k_ Ao93 t252 co93 ∧ Nb_ k_ Ao94 t255 co94 ∧ Nb_ k_ Ao104 t262 co104 ∧ Nb_ k_ Ao105 t265 co105) (Kd.R_keptB (HO237.out) hkp (fun k_ hk_ hs_ => Or.elim hs_ (fun e_ => (hk_.1.1.1.1.1.1.1.1.1.2) e_) (fun e_ => (hk_.1.1.1.1.1.1.1.1.2) e_))) (fun k_ hk_ => ⟨hk_.1.1.1.1.1.1.1.1.1.1.1.2.2.2.2, hk_.1.1.1.1.1.1.1.1.1.1.2, hk_.1.1.1.1.1.1.1.1.1.2, hk_.1.1.1.1.1.1.1.1.2, hk_.1.1.1.1.1.1.1.2, hk_.1.1.1.1.1.1.2, hk_.1.1.1.1.1.2⟩)); replace BK238 := Aside0.mk (blk_kept BK238.out hkp (fun hs_ => Or.elim hs_ (fun e_ => (fun e_ => (Kd.R_ne HO244.out BK238.out (by decide)) e_) e_) (fun e_ => (fun e_ => (Kd.R_ne HO247.out BK238.out (by decide)) e_) e_))); replace BK248 := Aside0.mk (blk_kept BK248.out hkp (fun hs_ => Or.elim hs_ (fun e_ => (fun e_ => (Kd.R_ne HO244.out BK248.out (by decide)) e_) e_) (fun e_ => (fun e_ => (Kd.R_ne HO247.out BK248.out (by decide)) e_) e_))); replace HO254 := Aside0.mk (Kd.R_mono (ok' := fun k_ => Nb_ k_ Ao70 t232 co70 ∧ Nb_ k_ Ao72 t235 co72 ∧ Nb_ k_ Ao82 t242 co82 ∧ Nb_ k_ Ao83 t245 co83 ∧ Nb_ k_ Ao94 t255 co94 ∧ Nb_ k_ Ao104 t262 co104 ∧ Nb_ k_ Ao105 t265 co105) (Kd.R_keptB (HO254.out) hkp (fun k_ hk_ hs_ => Or.elim hs_ (fun e_ => (hk_.1.1.1.1.1.1.1.2) e_) (fun e_ => (hk_.1.1.1.1.1.1.2) e_))) (fun k_ hk_ => ⟨hk_.1.1.1.1.1.1.1.1.1.1.2, hk_.1.1.1.1.1.1.1.1.1.2, hk_.1.1.1.1.1.1.1.1.2, hk_.1.1.1.1.1.1.1.2, hk_.1.1.1.1.1.1.1.1.1.1.1, hk_.1.1.1.1.1.1.2, hk_.1.1.1.1.1.2⟩)); replace HO257 := Aside0.mk (Kd.R_mono (ok' := fun k_ => Nb_ k_ Ao70 t232 co70 ∧ Nb_ k_ Ao72 t235 co72 ∧ Nb_ k_ Ao82 t242 co82 ∧ Nb_ k_ Ao83 t245 co83 ∧ Nb_ k_ Ao93 t252 co93 ∧ Nb_ k_ Ao104 t262 co104 ∧ Nb_ k_ Ao105 t265 co105) (Kd.R_keptB (HO257.out) hkp (fun k_ hk_ hs_ => Or.elim hs_ (fun e_ => (hk_.1.1.1.1.1.1.1.2) e_) (fun e_ => (hk_.1.1.1.1.1.1.2) e_))) (fun k_ hk_ => ⟨hk_.1.1.1.1.1.1.1.1.1.1.2, hk_.1.1.1.1.1.1.1.1.1.2, hk_.1.1.1.1.1.1.1.1.2, hk_.1.1.1.1.1.1.1.2, hk_.1.1.1.1.1.1.1.1.1.1.1, hk_.1.1.1.1.1.1.2, hk_.1.1.1.1.1.2⟩)); replace BK258 := Aside0.mk (blk_kept BK258.out hkp (fun hs_ => Or.elim hs_ (fun e_ => (fun e_ => (Kd.R_ne HO244.out BK258.out (by decide)) e_) e_) (fun e_ => (fun e_ => (Kd.R_ne HO247.out BK258.out (by decide)) e_) e_))); replace HO264 := Aside0.mk (Kd.R_mono (ok' := fun k_ => Nb_ k_ Ao70 t232 co70 ∧ Nb_ k_ Ao72 t235 co72 ∧ Nb_ k_ Ao82 t242 co82 ∧ Nb_ k_ Ao83 t245 co83 ∧ Nb_ k_ Ao93 t252 co93 ∧ Nb_ k_ Ao94 t255 co94 ∧ Nb_ k_ Ao105 t265 co105) (Kd.R_keptB (HO264.out) hkp (fun k_ hk_ hs_ => Or.elim hs_ (fun e_ => (hk_.1.1.1.1.1.1.1.2) e_) (fun e_ => (hk_.1.1.1.1.1.1.2) e_))) (fun k_ hk_ => ⟨hk_.1.1.1.1.1.1.1.1.1.1.2, hk_.1.1.1.1.1.1.1.1.1.2, hk_.1.1.1.1.1.1.1.1.2, hk_.1.1.1.1.1.1.1.2, hk_.1.1.1.1.1.1.2, hk_.1.1.1.1.1.2, hk_.1.1.1.1.1.1.1.1.1.1.1⟩)); replace HO267 := Aside0.mk (Kd.R_mono (ok' := fun k_ => Nb_ k_ Ao70 t232 co70 ∧ Nb_ k_ Ao72 t235 co72 ∧ Nb_ k_ Ao82 t242 co82 ∧ Nb_ k_ Ao83 t245 co83 ∧ Nb_ k_ Ao93 t252 co93 ∧ Nb_ k_ Ao94 t255 co94 ∧ Nb_ k_ Ao104 t262 co104) (Kd.R_keptB (HO267.out) hkp (fun k_ hk_ hs_ => Or.elim hs_ (fun e_ => (hk_.1.1.1.1.1.1.1.2) e_) (fun e_ => (hk_.1.1.1.1.1.1.2) e_))) (fun k_ hk_ => ⟨hk_.1.1.1.1.1.1.1.1.1.1.2, hk_.1.1.1.1.1.1.1.1.1.2, hk_.1.1.1.1.1.1.1.1.2, hk_.1.1.1.1.1.1.1.2, hk_.1.1.1.1.1.1.2, hk_.1.1.1.1.1.2, hk_.1.1.1.1.1.1.1.1.1.1.1⟩)); replace BK268 := Aside0.mk (blk_kept BK268.out hkp (fun hs_ => Or.elim hs_ (fun e_ => (fun e_ => (Kd.R_ne HO244.out BK268.out (by decide)) e_) e_) (fun e_ => (fun e_ => (Kd.R_ne HO247.out BK268.out (by decide)) e_) e_))); replace HO244 := Aside0.mk (Kd.R_reok rfl hy0 (fun k_ e_ => HO244.out.1 k_ e_)); replace HO247 := Aside0.mk (Kd.R_reok rfl hy1 (fun k_ e_ => HO247.out.1 k_ e_)); replace HB := Aside0.mk (hb); (try clear hb); (try clear hkp); (try clear hy0); (try clear hy1); have hcz120_0 : w119.cell? ⟨gb258, 0, none⟩ = some (.int .i64 t249) := (blk_cell BK258.out 0).trans rfl; have hcz120_1 : w119.cell? ⟨gb258, 1, none⟩ = some (.int .i64 t250) := (blk_cell BK258.out 1).trans rfl; have hcz120_2 : w119.cell? ⟨gb258, 2, none⟩ = some (.int .i64 t251) := (blk_cell BK258.out 2).trans rfl; have hcz120_3 : w119.cell? ⟨gb258, 3, none⟩ = some (.slice Ao93 t252.length co93) := (blk_cell BK258.out 3).trans rfl; have hcz120_4 : w119.cell? ⟨gb258, 4, none⟩ = some (.slice Ao94 t255.length co94) := (blk_cell BK258.out 4).trans rfl; have hfz120_0 := blk_frozen BK258.out 0; have hfz120_1 := blk_frozen BK258.out 1; have hfz120_2 := blk_frozen BK258.out 2; have hfz120_3 := blk_frozen BK258.out 3; have hfz120_4 := blk_frozen BK258.out 4) | ((with_reducible refine gate_callee (f := 24) rfl ?_); refine goesL_ (some 55) rfl rfl Try.func24 (by kernel_rfl) rfl #[.agg #[.int .i64 t249, .int .i64 t250, .int .i64 t251, .slice Ao93 t252.length co93, .slice Ao94 t255.length co94], .int .i64 t290] rfl (by (try simp only [List.map_toArray, List.map_cons, List.map_nil]); first | done | rfl) ?_; (with_reducible refine (laws_markPattern.calls k t249 t250 t251 (fun k_ => some k_ = (.slice Ao93 t252.length co93 : Value).ownBlock) (.slice Ao93 t252.length co93) t252 (fun k_ => some k_ = (.slice Ao94 t255.length co94 : Value).ownBlock) (.slice Ao94 t255.length co94) t255 t290 t293 t294 t295 w _ ?side1 ?side2 ?side3 ?side4 ?side5 A34.out).mono ?_); (case side1 => exact HB.out); (case side2 => exact Kd.R_tight rfl HO254.out); (case side3 => exact fun k_ e_ => (HO254.out.1 k_ e_.symm).2.2.2.2.1); (case side4 => exact Kd.R_tight rfl HO257.out); (case side5 => exact fun k_ e_ => (HO257.out.1 k_ e_.symm).2.2.2.2.1); rintro e w121 ⟨rfl, hy0, hy1, hb, hkp⟩; refine ⟨_, rfl, ?_⟩; replace BK207 := Aside0.mk (blk_kept BK207.out hkp (fun hs_ => Or.elim hs_ (fun e_ => (fun e_ => (Kd.R_ne HO254.out BK207.out (by decide)) e_) e_) (fun e_ => (fun e_ => (Kd.R_ne HO257.out BK207.out (by decide)) e_) e_))); replace BK208 := Aside0.mk (blk_kept BK208.out hkp (fun hs_ => Or.elim hs_ (fun e_ => (fun e_ => (Kd.R_ne HO254.out BK208.out (by decide)) e_) e_) (fun e_ => (fun e_ => (Kd.R_ne HO257.out BK208.out (by decide)) e_) e_))); replace HO234 := Aside0.mk (Kd.R_mono (ok' := fun k_ => Nb_ k_ Ao72 t235 co72 ∧ Nb_ k_ Ao82 t242 co82 ∧ Nb_ k_ Ao83 t245 co83 ∧ Nb_ k_ Ao93 t252 co93 ∧ Nb_ k_ Ao94 t255 co94 ∧ Nb_ k_ Ao104 t262 co104 ∧ Nb_ k_ Ao105 t265 co105) (Kd.R_keptB (HO234.out) hkp (fun k_ hk_ hs_ => Or.elim hs_ (fun e_ => (hk_.2.2.2.1) e_) (fun e_ => (hk_.2.2.2.2.1) e_))) (fun _ => pmBothx8_3)); replace HO237 := Aside0.mk (Kd.R_mono (ok' := fun k_ => Nb_ k_ Ao70 t232 co70 ∧ Nb_ k_ Ao82 t242 co82 ∧ Nb_ k_ Ao83 t245 co83 ∧ Nb_ k_ Ao93 t252 co93 ∧ Nb_ k_ Ao94 t255 co94 ∧ Nb_ k_ Ao104 t262 co104 ∧ Nb_ k_ Ao105 t265 co105) (Kd.R_keptB (HO237.out) hkp (fun k_ hk_ hs_ => Or.elim hs_ (fun e_ => (hk_.2.2.2.1) e_) (fun e_ => (hk_.2.2.2.2.1) e_))) (fun _ => pmBothx8_3)); replace BK238 := Aside0.mk (blk_kept BK238.out hkp (fun hs_ => Or.elim hs_ (fun e_ => (fun e_ => (Kd.R_ne HO254.out BK238.out (by decide)) e_) e_) (fun e_ => (fun e_ => (Kd.R_ne HO257.out BK238.out (by decide)) e_) e_))); replace HO244 := Aside0.mk (Kd.R_mono (ok' := fun k_ => Nb_ k_ Ao70 t232 co70 ∧ Nb_ k_ Ao72 t235 co72 ∧ Nb_ k_ Ao83 t245 co83 ∧ Nb_ k_ Ao93 t252 co93 ∧ Nb_ k_ Ao94 t255 co94 ∧ Nb_ k_ Ao104 t262 co104 ∧ Nb_ k_ Ao105 t265 co105) (Kd.R_keptB (HO244.out) hkp (fun k_ hk_ hs_ => Or.elim hs_ (fun e_ => (hk_.1.1.1.1.1.1.1.2) e_) (fun e_ => (hk_.1.1.1.1.1.1.2) e_))) (fun k_ hk_ => ⟨hk_.1.1.1.1.1.1.1.1.1.1.2, hk_.1.1.1.1.1.1.1.1.1.2, hk_.1.1.1.1.1.1.1.1.1.1.1, hk_.1.1.1.1.1.1.1.1.2, hk_.1.1.1.1.1.1.1.2, hk_.1.1.1.1.1.1.2, hk_.1.1.1.1.1.2⟩)); replace HO247 := Aside0.mk (Kd.R_mono (ok' := fun k_ => Nb_ k_ Ao70 t232 co70 ∧ Nb_ k_ Ao72 t235 co72 ∧ Nb_ k_ Ao82 t242 co82 ∧ Nb_ k_ Ao93 t252 co93 ∧ Nb_ k_ Ao94 t255 co94 ∧ Nb_ k_ Ao104 t262 co104 ∧ Nb_ k_ Ao105 t265 co105) (Kd.R_keptB (HO247.out) hkp (fun k_ hk_ hs_ => Or.elim hs_ (fun e_ => (hk_.1.1.1.1.1.1.1.2) e_) (fun e_ => (hk_.1.1.1.1.1.1.2) e_))) (fun k_ hk_ => ⟨hk_.1.1.1.1.1.1.1.1.1.1.2, hk_.1.1.1.1.1.1.1.1.1.2, hk_.1.1.1.1.1.1.1.1.1.1.1, hk_.1.1.1.1.1.1.1.1.2, hk_.1.1.1.1.1.1.1.2, hk_.1.1.1.1.1.1.2, hk_.1.1.1.1.1.2⟩)); replace BK248 := Aside0.mk (blk_kept BK248.out hkp (fun hs_ => Or.elim hs_ (fun e_ => (fun e_ => (Kd.R_ne HO254.out BK248.out (by decide)) e_) e_) (fun e_ => (fun e_ => (Kd.R_ne HO257.out BK248.out (by decide)) e_) e_))); replace BK258 := Aside0.mk (blk_kept BK258.out hkp (fun hs_ => Or.elim hs_ (fun e_ => (fun e_ => (Kd.R_ne HO254.out BK258.out (by decide)) e_) e_) (fun e_ => (fun e_ => (Kd.R_ne HO257.out BK258.out (by decide)) e_) e_))); replace HO264 := Aside0.mk (Kd.R_mono (ok' := fun k_ => Nb_ k_ Ao70 t232 co70 ∧ Nb_ k_ Ao72 t235 co72 ∧ Nb_ k_ Ao82 t242 co82 ∧ Nb_ k_ Ao83 t245 co83 ∧ Nb_ k_ Ao93 t252 co93 ∧ Nb_ k_ Ao94 t255 co94 ∧ Nb_ k_ Ao105 t265 co105) (Kd.R_keptB (HO264.out) hkp (fun k_ hk_ hs_ => Or.elim hs_ (fun e_ => (hk_.2.2.2.2.1) e_) (fun e_ => (hk_.2.2.2.2.2.1) e_))) (fun _ => pmBothx8_3)); replace HO267 := Aside0.mk (Kd.R_mono (ok' := fun k_ => Nb_ k_ Ao70 t232 co70 ∧ Nb_ k_ Ao72 t235 co72 ∧ Nb_ k_ Ao82 t242 co82 ∧ Nb_ k_ Ao83 t245 co83 ∧ Nb_ k_ Ao93 t252 co93 ∧ Nb_ k_ Ao94 t255 co94 ∧ Nb_ k_ Ao104 t262 co104) (Kd.R_keptB (HO267.out) hkp (fun k_ hk_ hs_ => Or.elim hs_ (fun e_ => (hk_.2.2.2.2.1) e_) (fun e_ => (hk_.2.2.2.2.2.1) e_))) (fun _ => pmBothx8_3)); replace BK268 := Aside0.mk (blk_kept BK268.out hkp (fun hs_ => Or.elim hs_ (fun e_ => (fun e_ => (Kd.R_ne HO254.out BK268.out (by decide)) e_) e_) (fun e_ => (fun e_ => (Kd.R_ne HO257.out BK268.out (by decide)) e_) e_))); replace HO254 := Aside0.mk (Kd.R_reok rfl hy0 (fun k_ e_ => HO254.out.1 k_ e_)); replace HO257 := Aside0.mk (Kd.R_reok rfl hy1 (fun k_ e_ => HO257.out.1 k_ e_)); replace HB := Aside0.mk (hb); (try clear hb); (try clear hkp); (try clear hy0); (try clear hy1); have hcz122_0 : w121.cell? ⟨gb268, 0, none⟩ = some (.int .i64 t259) := (blk_cell BK268.out 0).trans rfl; have hcz122_1 : w121.cell? ⟨gb268, 1, none⟩ = some (.int .i64 t260) := (blk_cell BK268.out 1).trans rfl; have hcz122_2 : w121.cell? ⟨gb268, 2, none⟩ = some (.int .i64 t261) := (blk_cell BK268.out 2).trans rfl; have hcz122_3 : w121.cell? ⟨gb268, 3, none⟩ = some (.slice Ao104 t262.length co104) := (blk_cell BK268.out 3).trans rfl; have hcz122_4 : w121.cell? ⟨gb268, 4, none⟩ = some (.slice Ao105 t265.length co105) := (blk_cell BK268.out 4).trans rfl; have hfz122_0 := blk_frozen BK268.out 0; have hfz122_1 := blk_frozen BK268.out 1; have hfz122_2 := blk_frozen BK268.out 2; have hfz122_3 := blk_frozen BK268.out 3; have hfz122_4 := blk_frozen BK268.out 4; have hcz123_0 : w121.cell? ⟨gb238, 0, none⟩ = some (.int .i64 t229) := (blk_cell BK238.out 0).trans rfl; have hcz123_1 : w121.cell? ⟨gb238, 1, none⟩ = some (.int .i64 t230) := (blk_cell BK238.out 1).trans rfl; have hcz123_2 : w121.cell? ⟨gb238, 2, none⟩ = some (.int .i64 t231) := (blk_cell BK238.out 2).trans rfl; have hcz123_3 : w121.cell? ⟨gb238, 3, none⟩ = some (.slice Ao70 t232.length co70) := (blk_cell BK238.out 3).trans rfl; have hcz123_4 : w121.cell? ⟨gb238, 4, none⟩ = some (.slice Ao72 t235.length co72) := (blk_cell BK238.out 4).trans rfl; have hfz123_0 := blk_frozen BK238.out 0; have hfz123_1 := blk_frozen BK238.out 1; have hfz123_2 := blk_frozen BK238.out 2; have hfz123_3 := blk_frozen BK238.out 3; have hfz123_4 := blk_frozen BK238.out 4) | (go_at_call 15; (with_reducible refine (laws_eqPattern.calls k t259 t260 t261 _ _ t262 _ _ t265 t229 t230 t231 _ _ t232 _ _ t235 true _ ?side1 ?side2 ?side3 ?side4 ?side5 ?side6 ?side7 ?side8 A36.out).mono ?_); (case side1 => exact (Kd.R_reads' HO264.out).2.2); (case side2 => exact (Kd.R_reads' HO264.out).2.1); (case side3 => exact (Kd.R_reads' HO267.out).2.2); (case side4 => exact (Kd.R_reads' HO267.out).2.1); (case side5 => exact (Kd.R_reads' HO234.out).2.2); (case side6 => exact (Kd.R_reads' HO234.out).2.1); (case side7 => exact (Kd.R_reads' HO237.out).2.2); (case side8 => exact (Kd.R_reads' HO237.out).2.1); rintro e w124 ⟨rfl, hb⟩; replace HO234 := Aside0.mk (Kd.R_below HO234.out hb); replace HO237 := Aside0.mk (Kd.R_below HO237.out hb); replace HO244 := Aside0.mk (Kd.R_below HO244.out hb); replace HO247 := Aside0.mk (Kd.R_below HO247.out hb); replace HO254 := Aside0.mk (Kd.R_below HO254.out hb); replace HO257 := Aside0.mk (Kd.R_below HO257.out hb); replace HO264 := Aside0.mk (Kd.R_below HO264.out hb); replace HO267 := Aside0.mk (Kd.R_below HO267.out hb); replace BK207 := Aside0.mk (blk_below BK207.out hb); replace BK208 := Aside0.mk (blk_below BK208.out hb); replace BK238 := Aside0.mk (blk_below BK238.out hb); replace BK248 := Aside0.mk (blk_below BK248.out hb); replace BK258 := Aside0.mk (blk_below BK258.out hb); replace BK268 := Aside0.mk (blk_below BK268.out hb); replace HB := Aside0.mk (below_step HB.out hb); (try clear hb); (try clear hb2); (try clear hk); (try clear hi); have hcz125_0 : w124.cell? ⟨gb268, 0, none⟩ = some (.int .i64 t259) := (blk_cell BK268.out 0).trans rfl; have hcz125_1 : w124.cell? ⟨gb268, 1, none⟩ = some (.int .i64 t260) := (blk_cell BK268.out 1).trans rfl; have hcz125_2 : w124.cell? ⟨gb268, 2, none⟩ = some (.int .i64 t261) := (blk_cell BK268.out 2).trans rfl; have hcz125_3 : w124.cell? ⟨gb268, 3, none⟩ = some (.slice Ao104 t262.length co104) := (blk_cell BK268.out 3).trans rfl; have hcz125_4 : w124.cell? ⟨gb268, 4, none⟩ = some (.slice Ao105 t265.length co105) := (blk_cell BK268.out 4).trans rfl; have hfz125_0 := blk_frozen BK268.out 0; have hfz125_1 := blk_frozen BK268.out 1; have hfz125_2 := blk_frozen BK268.out 2; have hfz125_3 := blk_frozen BK268.out 3; have hfz125_4 := blk_frozen BK268.out 4) | ((with_reducible refine gate_callee (f := 24) rfl ?_); refine goesL_ (some 66) rfl rfl Try.func24 (by kernel_rfl) rfl #[.agg #[.int .i64 t259, .int .i64 t260, .int .i64 t261, .slice Ao104 t262.length co104, .slice Ao105 t265.length co105], .int .i64 1] rfl (by (try simp only [List.map_toArray, List.map_cons, List.map_nil]); first | done | rfl) ?_; (with_reducible refine (laws_markPattern.calls k t259 t260 t261 (fun k_ => some k_ = (.slice Ao104 t262.length co104 : Value).ownBlock) (.slice Ao104 t262.length co104) t262 (fun k_ => some k_ = (.slice Ao105 t265.length co105 : Value).ownBlock) (.slice Ao105 t265.length co105) t265 1 t297 t298 t299 w _ ?side1 ?side2 ?side3 ?side4 ?side5 A38.out).mono ?_); (case side1 => exact HB.out); (case side2 => exact Kd.R_tight rfl HO264.out); (case side3 => exact fun k_ e_ => (HO264.out.1 k_ e_.symm).2.2.2.2.2.2); (case side4 => exact Kd.R_tight rfl HO267.out); (case side5 => exact fun k_ e_ => (HO267.out.1 k_ e_.symm).2.2.2.2.2.2); rintro e w126 ⟨rfl, hy0, hy1, hb, hkp⟩; refine ⟨_, rfl, ?_⟩; replace BK207 := Aside0.mk (blk_kept BK207.out hkp (fun hs_ => Or.elim hs_ (fun e_ => (fun e_ => (Kd.R_ne HO264.out BK207.out (by decide)) e_) e_) (fun e_ => (fun e_ => (Kd.R_ne HO267.out BK207.out (by decide)) e_) e_))); replace BK208 := Aside0.mk (blk_kept BK208.out hkp (fun hs_ => Or.elim hs_ (fun e_ => (fun e_ => (Kd.R_ne HO264.out BK208.out (by decide)) e_) e_) (fun e_ => (fun e_ => (Kd.R_ne HO267.out BK208.out (by decide)) e_) e_))); replace HO234 := Aside0.mk (Kd.R_mono (ok' := fun k_ => Nb_ k_ Ao72 t235 co72 ∧ Nb_ k_ Ao82 t242 co82 ∧ Nb_ k_ Ao83 t245 co83 ∧ Nb_ k_ Ao93 t252 co93 ∧ Nb_ k_ Ao94 t255 co94 ∧ Nb_ k_ Ao104 t262 co104 ∧ Nb_ k_ Ao105 t265 co105) (Kd.R_keptB (HO234.out) hkp (fun k_ hk_ hs_ => Or.elim hs_ (fun e_ => (hk_.2.2.2.2.2.1) e_) (fun e_ => (hk_.2.2.2.2.2.2) e_))) (fun _ => pmBothx8_3)); replace HO237 := Aside0.mk (Kd.R_mono (ok' := fun k_ => Nb_ k_ Ao70 t232 co70 ∧ Nb_ k_ Ao82 t242 co82 ∧ Nb_ k_ Ao83 t245 co83 ∧ Nb_ k_ Ao93 t252 co93 ∧ Nb_ k_ Ao94 t255 co94 ∧ Nb_ k_ Ao104 t262 co104 ∧ Nb_ k_ Ao105 t265 co105) (Kd.R_keptB (HO237.out) hkp (fun k_ hk_ hs_ => Or.elim hs_ (fun e_ => (hk_.2.2.2.2.2.1) e_) (fun e_ => (hk_.2.2.2.2.2.2) e_))) (fun _ => pmBothx8_3)); replace BK238 := Aside0.mk (blk_kept BK238.out hkp (fun hs_ => Or.elim hs_ (fun e_ => (fun e_ => (Kd.R_ne HO264.out BK238.out (by decide)) e_) e_) (fun e_ => (fun e_ => (Kd.R_ne HO267.out BK238.out (by decide)) e_) e_))); replace HO244 := Aside0.mk (Kd.R_mono (ok' := fun k_ => Nb_ k_ Ao70 t232 co70 ∧ Nb_ k_ Ao72 t235 co72 ∧ Nb_ k_ Ao83 t245 co83 ∧ Nb_ k_ Ao93 t252 co93 ∧ Nb_ k_ Ao94 t255 co94 ∧ Nb_ k_ Ao104 t262 co104 ∧ Nb_ k_ Ao105 t265 co105) (Kd.R_keptB (HO244.out) hkp (fun k_ hk_ hs_ => Or.elim hs_ (fun e_ => (hk_.2.2.2.2.2.1) e_) (fun e_ => (hk_.2.2.2.2.2.2) e_))) (fun _ => pmBothx8_3)); replace HO247 := Aside0.mk (Kd.R_mono (ok' := fun k_ => Nb_ k_ Ao70 t232 co70 ∧ Nb_ k_ Ao72 t235 co72 ∧ Nb_ k_ Ao82 t242 co82 ∧ Nb_ k_ Ao93 t252 co93 ∧ Nb_ k_ Ao94 t255 co94 ∧ Nb_ k_ Ao104 t262 co104 ∧ Nb_ k_ Ao105 t265 co105) (Kd.R_keptB (HO247.out) hkp (fun k_ hk_ hs_ => Or.elim hs_ (fun e_ => (hk_.2.2.2.2.2.1) e_) (fun e_ => (hk_.2.2.2.2.2.2) e_))) (fun _ => pmBothx8_3)); replace BK248 := Aside0.mk (blk_kept BK248.out hkp (fun hs_ => Or.elim hs_ (fun e_ => (fun e_ => (Kd.R_ne HO264.out BK248.out (by decide)) e_) e_) (fun e_ => (fun e_ => (Kd.R_ne HO267.out BK248.out (by decide)) e_) e_))); replace HO254 := Aside0.mk (Kd.R_mono (ok' := fun k_ => Nb_ k_ Ao70 t232 co70 ∧ Nb_ k_ Ao72 t235 co72 ∧ Nb_ k_ Ao82 t242 co82 ∧ Nb_ k_ Ao83 t245 co83 ∧ Nb_ k_ Ao94 t255 co94 ∧ Nb_ k_ Ao104 t262 co104 ∧ Nb_ k_ Ao105 t265 co105) (Kd.R_keptB (HO254.out) hkp (fun k_ hk_ hs_ => Or.elim hs_ (fun e_ => (hk_.2.2.2.2.2.1) e_) (fun e_ => (hk_.2.2.2.2.2.2) e_))) (fun _ => pmBothx8_3)); replace HO257 := Aside0.mk (Kd.R_mono (ok' := fun k_ => Nb_ k_ Ao70 t232 co70 ∧ Nb_ k_ Ao72 t235 co72 ∧ Nb_ k_ Ao82 t242 co82 ∧ Nb_ k_ Ao83 t245 co83 ∧ Nb_ k_ Ao93 t252 co93 ∧ Nb_ k_ Ao104 t262 co104 ∧ Nb_ k_ Ao105 t265 co105) (Kd.R_keptB (HO257.out) hkp (fun k_ hk_ hs_ => Or.elim hs_ (fun e_ => (hk_.2.2.2.2.2.1) e_) (fun e_ => (hk_.2.2.2.2.2.2) e_))) (fun _ => pmBothx8_3)); replace BK258 := Aside0.mk (blk_kept BK258.out hkp (fun hs_ => Or.elim hs_ (fun e_ => (fun e_ => (Kd.R_ne HO264.out BK258.out (by decide)) e_) e_) (fun e_ => (fun e_ => (Kd.R_ne HO267.out BK258.out (by decide)) e_) e_))); replace BK268 := Aside0.mk (blk_kept BK268.out hkp (fun hs_ => Or.elim hs_ (fun e_ => (fun e_ => (Kd.R_ne HO264.out BK268.out (by decide)) e_) e_) (fun e_ => (fun e_ => (Kd.R_ne HO267.out BK268.out (by decide)) e_) e_))); replace HO264 := Aside0.mk (Kd.R_reok rfl hy0 (fun k_ e_ => HO264.out.1 k_ e_)); replace HO267 := Aside0.mk (Kd.R_reok rfl hy1 (fun k_ e_ => HO267.out.1 k_ e_)); replace HB := Aside0.mk (hb); (try clear hb); (try clear hkp); (try clear hy0); (try clear hy1); have hcz127_0 : w126.cell? ⟨gb268, 0, none⟩ = some (.int .i64 t259) := (blk_cell BK268.out 0).trans rfl; have hcz127_1 : w126.cell? ⟨gb268, 1, none⟩ = some (.int .i64 t260) := (blk_cell BK268.out 1).trans rfl; have hcz127_2 : w126.cell? ⟨gb268, 2, none⟩ = some (.int .i64 t261) := (blk_cell BK268.out 2).trans rfl; have hcz127_3 : w126.cell? ⟨gb268, 3, none⟩ = some (.slice Ao104 t262.length co104) := (blk_cell BK268.out 3).trans rfl; have hcz127_4 : w126.cell? ⟨gb268, 4, none⟩ = some (.slice Ao105 t265.length co105) := (blk_cell BK268.out 4).trans rfl; have hfz127_0 := blk_frozen BK268.out 0; have hfz127_1 := blk_frozen BK268.out 1; have hfz127_2 := blk_frozen BK268.out 2; have hfz127_3 := blk_frozen BK268.out 3; have hfz127_4 := blk_frozen BK268.out 4) | ((with_reducible refine gate_callee (f := 25) rfl ?_); refine goesL_ (some 69) rfl rfl Try.func25 (by kernel_rfl) rfl #[.agg #[.int .i64 t259, .int .i64 t260, .int .i64 t261, .slice Ao104 t298.length co104, .slice Ao105 t299.length co105], .int .i64 1] rfl (by (try simp only [List.map_toArray, List.map_cons, List.map_nil]); first | done | (rw [show t298.length = t262.length from (Kd.R_reads' HO264.out).1.symm, show t299.length = t265.length from (Kd.R_reads' HO267.out).1.symm] <;> rfl) | rfl | (simp only [List.length_drop, List.length_take]; rfl)) ?_; (with_reducible refine (laws_heldPattern.calls k t259 t260 t261 _ _ t298 _ _ t299 1 t300 _ ?side1 ?side2 ?side3 ?side4 A39.out).mono ?_); (case side1 => exact (Kd.R_reads' HO264.out).2.2); (case side2 => rw [show t298.length = t262.length from (Kd.R_reads' HO264.out).1.symm]; exact (Kd.R_reads' HO264.out).2.1); (case side3 => exact (Kd.R_reads' HO267.out).2.2); (case side4 => rw [show t299.length = t265.length from (Kd.R_reads' HO267.out).1.symm]; exact (Kd.R_reads' HO267.out).2.1); rintro e w128 ⟨rfl, hb⟩; refine ⟨_, rfl, ?_⟩; replace HO234 := Aside0.mk (Kd.R_below HO234.out hb); replace HO237 := Aside0.mk (Kd.R_below HO237.out hb); replace HO244 := Aside0.mk (Kd.R_below HO244.out hb); replace HO247 := Aside0.mk (Kd.R_below HO247.out hb); replace HO254 := Aside0.mk (Kd.R_below HO254.out hb); replace HO257 := Aside0.mk (Kd.R_below HO257.out hb); replace HO264 := Aside0.mk (Kd.R_below HO264.out hb); replace HO267 := Aside0.mk (Kd.R_below HO267.out hb); replace BK207 := Aside0.mk (blk_below BK207.out hb); replace BK208 := Aside0.mk (blk_below BK208.out hb); replace BK238 := Aside0.mk (blk_below BK238.out hb); replace BK248 := Aside0.mk (blk_below BK248.out hb); replace BK258 := Aside0.mk (blk_below BK258.out hb); replace BK268 := Aside0.mk (blk_below BK268.out hb); replace HB := Aside0.mk (below_step HB.out hb); (try clear hb); (try clear hb2); (try clear hk); (try clear hi)))
      replace HO234 := Aside0.mk (Kd.R_drew HO234.out)
      replace HO237 := Aside0.mk (Kd.R_drew HO237.out)
      replace HO244 := Aside0.mk (Kd.R_drew HO244.out)
      replace HO247 := Aside0.mk (Kd.R_drew HO247.out)
      replace HO254 := Aside0.mk (Kd.R_drew HO254.out)
      replace HO257 := Aside0.mk (Kd.R_drew HO257.out)
      replace HO264 := Aside0.mk (Kd.R_drew HO264.out)
      replace HO267 := Aside0.mk (Kd.R_drew HO267.out)
      replace BK207 := Aside0.mk (blk_drew BK207.out)
      replace BK208 := Aside0.mk (blk_drew BK208.out)
      replace BK238 := Aside0.mk (blk_drew BK238.out)
      replace BK248 := Aside0.mk (blk_drew BK248.out)
      replace BK258 := Aside0.mk (blk_drew BK258.out)
      replace BK268 := Aside0.mk (blk_drew BK268.out)
      replace HB := Aside0.mk (below_drew1 HB.out)
      refine start_ (n := 7) (S := fun w' => w'.cell? ⟨gb207, 0, none⟩ = some (.int .i64 a0_0) ∧ w'.cell? ⟨gb207, 1, none⟩ = some (.int .i64 a0_1) ∧ w'.cell? ⟨gb207, 2, none⟩ = some (.int .i64 a0_2) ∧ w'.cell? ⟨gb207, 3, none⟩ = some (.slice A0_3 l0_3.length c0_3) ∧ w'.cell? ⟨gb207, 4, none⟩ = some (.slice A0_4 l0_4.length c0_4) ∧ w'.cell? ⟨gb208, 0, none⟩ = some (.int .i64 a1_0) ∧ w'.cell? ⟨gb208, 1, none⟩ = some (.int .i64 a1_1) ∧ w'.cell? ⟨gb208, 2, none⟩ = some (.int .i64 a1_2) ∧ w'.cell? ⟨gb208, 3, none⟩ = some (.slice A1_3 l1_3.length c1_3) ∧ w'.cell? ⟨gb208, 4, none⟩ = some (.slice A1_4 l1_4.length c1_4)) (ds := []) #[false, false, false, false, false, false, false] (by kernel_rfl) rfl rfl ⟨(blk_cell BK207.out 0).trans rfl, (blk_cell BK207.out 1).trans rfl, (blk_cell BK207.out 2).trans rfl, (blk_cell BK207.out 3).trans rfl, (blk_cell BK207.out 4).trans rfl, (blk_cell BK208.out 0).trans rfl, (blk_cell BK208.out 1).trans rfl, (blk_cell BK208.out 2).trans rfl, (blk_cell BK208.out 3).trans rfl, (blk_cell BK208.out 4).trans rfl⟩ (fun hHeld => ?_)
      generalize w128.drew = w129 at HO234 HO237 HO244 HO247 HO254 HO257 HO264 HO267 BK207 BK208 BK238 BK248 BK258 BK268 HB hHeld ⊢
      refine take_ (i := 0) (N := some 75) (v := ?_) (a' := ?_) #[true, false, false, false, false, false, false] rfl rfl (by kernel_rfl) (fun _ _ _ h => h) (Or.inl ⟨by rfl, ?_⟩) hHeld ?_ ?_
      rotate_left
      ·rintro w' ⟨s0, s1, s2, s3, s4, s5, s6, s7, s8, s9⟩
       go_simp
       with_reducible rfl
      rotate_left
      ·simp only [Act.put, List.setIfInBounds_toArray, List.set_cons_zero, List.set_cons_succ, i64_w, i32_w]
       rfl
      refine take_ (i := 2) (N := some 77) (v := ?_) (a' := ?_) #[true, false, true, false, false, false, false] rfl rfl (by kernel_rfl) (fun _ _ _ h => h) (Or.inl ⟨by rfl, ?_⟩) hHeld ?_ ?_
      rotate_left
      ·rintro w' ⟨s0, s1, s2, s3, s4, s5, s6, s7, s8, s9⟩
       go_simp
       with_reducible rfl
      rotate_left
      ·simp only [Act.put, List.setIfInBounds_toArray, List.set_cons_zero, List.set_cons_succ, i64_w, i32_w]
       rfl
      refine join_ (σ := Value × Value × Value × Value × Value × Value × Nat) 1 #[true, true, true, true, true, true, false] (fun s_ => [(76, .agg #[.int .i64 t301, .int .i64 t302, .int .i64 t303, s_.1, s_.2.1]), (78, .agg #[.int .i64 t310, .int .i64 t311, .int .i64 t312, s_.2.2.1, s_.2.2.2.1]), (79, .agg #[.int .i64 t319, .int .i64 t320, .int .i64 t321, s_.2.2.2.2.1, s_.2.2.2.2.2.1]), (13, .pointer (some ⟨s_.2.2.2.2.2.2, 0, none⟩))]) (fun s_ w' => (w'.cell? ⟨gb207, 0, none⟩ = some (.int .i64 a0_0) ∧ w'.cell? ⟨gb207, 1, none⟩ = some (.int .i64 a0_1) ∧ w'.cell? ⟨gb207, 2, none⟩ = some (.int .i64 a0_2) ∧ w'.cell? ⟨gb207, 3, none⟩ = some (.slice A0_3 l0_3.length c0_3) ∧ w'.cell? ⟨gb207, 4, none⟩ = some (.slice A0_4 l0_4.length c0_4) ∧ w'.cell? ⟨gb208, 0, none⟩ = some (.int .i64 a1_0) ∧ w'.cell? ⟨gb208, 1, none⟩ = some (.int .i64 a1_1) ∧ w'.cell? ⟨gb208, 2, none⟩ = some (.int .i64 a1_2) ∧ w'.cell? ⟨gb208, 3, none⟩ = some (.slice A1_3 l1_3.length c1_3) ∧ w'.cell? ⟨gb208, 4, none⟩ = some (.slice A1_4 l1_4.length c1_4)) ∧ (Kd.R (Kd.int .i64) 3 w' w.heap.size (fun k_ => Nb_ k_ Ao72 t235 co72 ∧ Nb_ k_ Ao82 t242 co82 ∧ Nb_ k_ Ao83 t245 co83 ∧ Nb_ k_ Ao93 t252 co93 ∧ Nb_ k_ Ao94 t255 co94 ∧ Nb_ k_ Ao104 t262 co104 ∧ Nb_ k_ Ao105 t265 co105 ∧ some k_ ≠ (s_.1 : Value).ownBlock ∧ some k_ ≠ (s_.2.1 : Value).ownBlock ∧ some k_ ≠ (s_.2.2.1 : Value).ownBlock ∧ some k_ ≠ (s_.2.2.2.1 : Value).ownBlock ∧ some k_ ≠ (s_.2.2.2.2.1 : Value).ownBlock ∧ some k_ ≠ (s_.2.2.2.2.2.1 : Value).ownBlock) (.slice Ao70 t232.length co70) t232) ∧ (Kd.R (Kd.int .i64) 3 w' w.heap.size (fun k_ => Nb_ k_ Ao70 t232 co70 ∧ Nb_ k_ Ao82 t242 co82 ∧ Nb_ k_ Ao83 t245 co83 ∧ Nb_ k_ Ao93 t252 co93 ∧ Nb_ k_ Ao94 t255 co94 ∧ Nb_ k_ Ao104 t262 co104 ∧ Nb_ k_ Ao105 t265 co105 ∧ some k_ ≠ (s_.1 : Value).ownBlock ∧ some k_ ≠ (s_.2.1 : Value).ownBlock ∧ some k_ ≠ (s_.2.2.1 : Value).ownBlock ∧ some k_ ≠ (s_.2.2.2.1 : Value).ownBlock ∧ some k_ ≠ (s_.2.2.2.2.1 : Value).ownBlock ∧ some k_ ≠ (s_.2.2.2.2.2.1 : Value).ownBlock) (.slice Ao72 t235.length co72) t235) ∧ (Kd.R (Kd.int .i64) 3 w' w.heap.size (fun k_ => Nb_ k_ Ao70 t232 co70 ∧ Nb_ k_ Ao72 t235 co72 ∧ Nb_ k_ Ao83 t245 co83 ∧ Nb_ k_ Ao93 t252 co93 ∧ Nb_ k_ Ao94 t255 co94 ∧ Nb_ k_ Ao104 t262 co104 ∧ Nb_ k_ Ao105 t265 co105 ∧ some k_ ≠ (s_.1 : Value).ownBlock ∧ some k_ ≠ (s_.2.1 : Value).ownBlock ∧ some k_ ≠ (s_.2.2.1 : Value).ownBlock ∧ some k_ ≠ (s_.2.2.2.1 : Value).ownBlock ∧ some k_ ≠ (s_.2.2.2.2.1 : Value).ownBlock ∧ some k_ ≠ (s_.2.2.2.2.2.1 : Value).ownBlock) (.slice Ao82 t242.length co82) t291) ∧ (Kd.R (Kd.int .i64) 3 w' w.heap.size (fun k_ => Nb_ k_ Ao70 t232 co70 ∧ Nb_ k_ Ao72 t235 co72 ∧ Nb_ k_ Ao82 t242 co82 ∧ Nb_ k_ Ao93 t252 co93 ∧ Nb_ k_ Ao94 t255 co94 ∧ Nb_ k_ Ao104 t262 co104 ∧ Nb_ k_ Ao105 t265 co105 ∧ some k_ ≠ (s_.1 : Value).ownBlock ∧ some k_ ≠ (s_.2.1 : Value).ownBlock ∧ some k_ ≠ (s_.2.2.1 : Value).ownBlock ∧ some k_ ≠ (s_.2.2.2.1 : Value).ownBlock ∧ some k_ ≠ (s_.2.2.2.2.1 : Value).ownBlock ∧ some k_ ≠ (s_.2.2.2.2.2.1 : Value).ownBlock) (.slice Ao83 t245.length co83) t292) ∧ (Kd.R (Kd.int .i64) 3 w' w.heap.size (fun k_ => Nb_ k_ Ao70 t232 co70 ∧ Nb_ k_ Ao72 t235 co72 ∧ Nb_ k_ Ao82 t242 co82 ∧ Nb_ k_ Ao83 t245 co83 ∧ Nb_ k_ Ao94 t255 co94 ∧ Nb_ k_ Ao104 t262 co104 ∧ Nb_ k_ Ao105 t265 co105 ∧ some k_ ≠ (s_.1 : Value).ownBlock ∧ some k_ ≠ (s_.2.1 : Value).ownBlock ∧ some k_ ≠ (s_.2.2.1 : Value).ownBlock ∧ some k_ ≠ (s_.2.2.2.1 : Value).ownBlock ∧ some k_ ≠ (s_.2.2.2.2.1 : Value).ownBlock ∧ some k_ ≠ (s_.2.2.2.2.2.1 : Value).ownBlock) (.slice Ao93 t252.length co93) t294) ∧ (Kd.R (Kd.int .i64) 3 w' w.heap.size (fun k_ => Nb_ k_ Ao70 t232 co70 ∧ Nb_ k_ Ao72 t235 co72 ∧ Nb_ k_ Ao82 t242 co82 ∧ Nb_ k_ Ao83 t245 co83 ∧ Nb_ k_ Ao93 t252 co93 ∧ Nb_ k_ Ao104 t262 co104 ∧ Nb_ k_ Ao105 t265 co105 ∧ some k_ ≠ (s_.1 : Value).ownBlock ∧ some k_ ≠ (s_.2.1 : Value).ownBlock ∧ some k_ ≠ (s_.2.2.1 : Value).ownBlock ∧ some k_ ≠ (s_.2.2.2.1 : Value).ownBlock ∧ some k_ ≠ (s_.2.2.2.2.1 : Value).ownBlock ∧ some k_ ≠ (s_.2.2.2.2.2.1 : Value).ownBlock) (.slice Ao94 t255.length co94) t295) ∧ (Kd.R (Kd.int .i64) 3 w' w.heap.size (fun k_ => Nb_ k_ Ao70 t232 co70 ∧ Nb_ k_ Ao72 t235 co72 ∧ Nb_ k_ Ao82 t242 co82 ∧ Nb_ k_ Ao83 t245 co83 ∧ Nb_ k_ Ao93 t252 co93 ∧ Nb_ k_ Ao94 t255 co94 ∧ Nb_ k_ Ao105 t265 co105 ∧ some k_ ≠ (s_.1 : Value).ownBlock ∧ some k_ ≠ (s_.2.1 : Value).ownBlock ∧ some k_ ≠ (s_.2.2.1 : Value).ownBlock ∧ some k_ ≠ (s_.2.2.2.1 : Value).ownBlock ∧ some k_ ≠ (s_.2.2.2.2.1 : Value).ownBlock ∧ some k_ ≠ (s_.2.2.2.2.2.1 : Value).ownBlock) (.slice Ao104 t262.length co104) t298) ∧ (Kd.R (Kd.int .i64) 3 w' w.heap.size (fun k_ => Nb_ k_ Ao70 t232 co70 ∧ Nb_ k_ Ao72 t235 co72 ∧ Nb_ k_ Ao82 t242 co82 ∧ Nb_ k_ Ao83 t245 co83 ∧ Nb_ k_ Ao93 t252 co93 ∧ Nb_ k_ Ao94 t255 co94 ∧ Nb_ k_ Ao104 t262 co104 ∧ some k_ ≠ (s_.1 : Value).ownBlock ∧ some k_ ≠ (s_.2.1 : Value).ownBlock ∧ some k_ ≠ (s_.2.2.1 : Value).ownBlock ∧ some k_ ≠ (s_.2.2.2.1 : Value).ownBlock ∧ some k_ ≠ (s_.2.2.2.2.1 : Value).ownBlock ∧ some k_ ≠ (s_.2.2.2.2.2.1 : Value).ownBlock) (.slice Ao105 t265.length co105) t299) ∧ (Kd.R (Kd.int .i64) 3 w' w.heap.size (fun k_ => Nb_ k_ Ao70 t232 co70 ∧ Nb_ k_ Ao72 t235 co72 ∧ Nb_ k_ Ao82 t242 co82 ∧ Nb_ k_ Ao83 t245 co83 ∧ Nb_ k_ Ao93 t252 co93 ∧ Nb_ k_ Ao94 t255 co94 ∧ Nb_ k_ Ao104 t262 co104 ∧ Nb_ k_ Ao105 t265 co105 ∧ some k_ ≠ (s_.2.1 : Value).ownBlock ∧ some k_ ≠ (s_.2.2.1 : Value).ownBlock ∧ some k_ ≠ (s_.2.2.2.1 : Value).ownBlock ∧ some k_ ≠ (s_.2.2.2.2.1 : Value).ownBlock ∧ some k_ ≠ (s_.2.2.2.2.2.1 : Value).ownBlock) s_.1 t304) ∧ (Kd.R (Kd.int .i64) 3 w' w.heap.size (fun k_ => Nb_ k_ Ao70 t232 co70 ∧ Nb_ k_ Ao72 t235 co72 ∧ Nb_ k_ Ao82 t242 co82 ∧ Nb_ k_ Ao83 t245 co83 ∧ Nb_ k_ Ao93 t252 co93 ∧ Nb_ k_ Ao94 t255 co94 ∧ Nb_ k_ Ao104 t262 co104 ∧ Nb_ k_ Ao105 t265 co105 ∧ some k_ ≠ (s_.1 : Value).ownBlock ∧ some k_ ≠ (s_.2.2.1 : Value).ownBlock ∧ some k_ ≠ (s_.2.2.2.1 : Value).ownBlock ∧ some k_ ≠ (s_.2.2.2.2.1 : Value).ownBlock ∧ some k_ ≠ (s_.2.2.2.2.2.1 : Value).ownBlock) s_.2.1 t307) ∧ (Kd.R (Kd.int .i64) 3 w' w.heap.size (fun k_ => Nb_ k_ Ao70 t232 co70 ∧ Nb_ k_ Ao72 t235 co72 ∧ Nb_ k_ Ao82 t242 co82 ∧ Nb_ k_ Ao83 t245 co83 ∧ Nb_ k_ Ao93 t252 co93 ∧ Nb_ k_ Ao94 t255 co94 ∧ Nb_ k_ Ao104 t262 co104 ∧ Nb_ k_ Ao105 t265 co105 ∧ some k_ ≠ (s_.1 : Value).ownBlock ∧ some k_ ≠ (s_.2.1 : Value).ownBlock ∧ some k_ ≠ (s_.2.2.2.1 : Value).ownBlock ∧ some k_ ≠ (s_.2.2.2.2.1 : Value).ownBlock ∧ some k_ ≠ (s_.2.2.2.2.2.1 : Value).ownBlock) s_.2.2.1 t313) ∧ (Kd.R (Kd.int .i64) 3 w' w.heap.size (fun k_ => Nb_ k_ Ao70 t232 co70 ∧ Nb_ k_ Ao72 t235 co72 ∧ Nb_ k_ Ao82 t242 co82 ∧ Nb_ k_ Ao83 t245 co83 ∧ Nb_ k_ Ao93 t252 co93 ∧ Nb_ k_ Ao94 t255 co94 ∧ Nb_ k_ Ao104 t262 co104 ∧ Nb_ k_ Ao105 t265 co105 ∧ some k_ ≠ (s_.1 : Value).ownBlock ∧ some k_ ≠ (s_.2.1 : Value).ownBlock ∧ some k_ ≠ (s_.2.2.1 : Value).ownBlock ∧ some k_ ≠ (s_.2.2.2.2.1 : Value).ownBlock ∧ some k_ ≠ (s_.2.2.2.2.2.1 : Value).ownBlock) s_.2.2.2.1 t316) ∧ (Kd.R (Kd.int .i64) 3 w' w.heap.size (fun k_ => Nb_ k_ Ao70 t232 co70 ∧ Nb_ k_ Ao72 t235 co72 ∧ Nb_ k_ Ao82 t242 co82 ∧ Nb_ k_ Ao83 t245 co83 ∧ Nb_ k_ Ao93 t252 co93 ∧ Nb_ k_ Ao94 t255 co94 ∧ Nb_ k_ Ao104 t262 co104 ∧ Nb_ k_ Ao105 t265 co105 ∧ some k_ ≠ (s_.1 : Value).ownBlock ∧ some k_ ≠ (s_.2.1 : Value).ownBlock ∧ some k_ ≠ (s_.2.2.1 : Value).ownBlock ∧ some k_ ≠ (s_.2.2.2.1 : Value).ownBlock ∧ some k_ ≠ (s_.2.2.2.2.2.1 : Value).ownBlock) s_.2.2.2.2.1 t322) ∧ (Kd.R (Kd.int .i64) 3 w' w.heap.size (fun k_ => Nb_ k_ Ao70 t232 co70 ∧ Nb_ k_ Ao72 t235 co72 ∧ Nb_ k_ Ao82 t242 co82 ∧ Nb_ k_ Ao83 t245 co83 ∧ Nb_ k_ Ao93 t252 co93 ∧ Nb_ k_ Ao94 t255 co94 ∧ Nb_ k_ Ao104 t262 co104 ∧ Nb_ k_ Ao105 t265 co105 ∧ some k_ ≠ (s_.1 : Value).ownBlock ∧ some k_ ≠ (s_.2.1 : Value).ownBlock ∧ some k_ ≠ (s_.2.2.1 : Value).ownBlock ∧ some k_ ≠ (s_.2.2.2.1 : Value).ownBlock ∧ some k_ ≠ (s_.2.2.2.2.1 : Value).ownBlock) s_.2.2.2.2.2.1 t325) ∧ (w'.heap[gb207]? = some (.cells #[.int .i64 a0_0, .int .i64 a0_1, .int .i64 a0_2, .slice A0_3 l0_3.length c0_3, .slice A0_4 l0_4.length c0_4] 24 (0, 0))) ∧ (w'.heap[gb208]? = some (.cells #[.int .i64 a1_0, .int .i64 a1_1, .int .i64 a1_2, .slice A1_3 l1_3.length c1_3, .slice A1_4 l1_4.length c1_4] 24 (0, 0))) ∧ (w'.heap[gb238]? = some (.cells #[.int .i64 t229, .int .i64 t230, .int .i64 t231, .slice Ao70 t232.length co70, .slice Ao72 t235.length co72] 27 (0, 0))) ∧ (w'.heap[gb248]? = some (.cells #[.int .i64 t239, .int .i64 t240, .int .i64 t241, .slice Ao82 t242.length co82, .slice Ao83 t245.length co83] 27 (0, 0))) ∧ (w'.heap[gb258]? = some (.cells #[.int .i64 t249, .int .i64 t250, .int .i64 t251, .slice Ao93 t252.length co93, .slice Ao94 t255.length co94] 27 (0, 0))) ∧ (w'.heap[gb268]? = some (.cells #[.int .i64 t259, .int .i64 t260, .int .i64 t261, .slice Ao104 t262.length co104, .slice Ao105 t265.length co105] 27 (0, 0))) ∧ (w'.heap[s_.2.2.2.2.2.2]? = some (.cells #[.int .i64 0, .int .i64 0, .int .i64 0, .slice none 0 0, .slice none 0 0] 27 (0, 0))) ∧ (w.heap.size ≤ s_.2.2.2.2.2.2) ∧ (w.heap.size ≤ s_.2.2.2.2.2.2) ∧ (gb207 ≠ s_.2.2.2.2.2.2) ∧ (s_.2.2.2.2.2.2 ≠ gb207) ∧ (gb208 ≠ s_.2.2.2.2.2.2) ∧ (s_.2.2.2.2.2.2 ≠ gb208) ∧ (gb238 ≠ s_.2.2.2.2.2.2) ∧ (s_.2.2.2.2.2.2 ≠ gb238) ∧ (gb248 ≠ s_.2.2.2.2.2.2) ∧ (s_.2.2.2.2.2.2 ≠ gb248) ∧ (gb258 ≠ s_.2.2.2.2.2.2) ∧ (s_.2.2.2.2.2.2 ≠ gb258) ∧ (gb268 ≠ s_.2.2.2.2.2.2) ∧ (s_.2.2.2.2.2.2 ≠ gb268) ∧ (Below w.heap.size w w')) ?_ ?_
      rotate_left
      ·intro hCont
       refine two_ (i := 1) (j := 5) (Ni := some 76) (Nj := some 13) #[true, true, true, false, false, false, false] #[true, false, true, false, false, true, false] rfl rfl rfl rfl (by kernel_rfl) (by decide) (by decide) (fun K hK => ?_) (fun K hK => ?_)
       ·skip
        refine goes_ Try.func13 (by kernel_rfl) rfl #[.agg #[.int .i64 a0_0, .int .i64 a0_1, .int .i64 a0_2, .slice A0_3 l0_3.length c0_3, .slice A0_4 l0_4.length c0_4]] (by rfl) rfl rfl (by (try simp only [List.map_toArray, List.map_cons, List.map_nil]); first | done | rfl) ?_
        with_reducible refine (laws_toPattern.calls k a0_0 a0_1 a0_2 _ _ l0_3 _ _ l0_4 t301 t302 t303 t304 t307 _ ?side1 ?side2 ?side3 ?side4 A42.out).mono ?_
        (case side1 => exact (Kd.C_below HR0_3.out HB.out))
        (case side2 => exact HC0_3.out)
        (case side3 => exact (Kd.C_below HR0_4.out HB.out))
        (case side4 => exact HC0_4.out)
        rintro e w130 ⟨v305, v308, rfl, ho0, ho1, hb⟩
        refine ⟨_, rfl, ?_⟩
        have HO306 := Aside0.mk (Kd.R_lower (Kd.R_new' (Kd.R_new' (Kd.R_new' (Kd.R_new' (Kd.R_new' (Kd.R_new' (Kd.R_new' (Kd.R_new' ho0 (Kd.R_lt HO234.out)) (Kd.R_lt HO237.out)) (Kd.R_lt HO244.out)) (Kd.R_lt HO247.out)) (Kd.R_lt HO254.out)) (Kd.R_lt HO257.out)) (Kd.R_lt HO264.out)) (Kd.R_lt HO267.out)) (below_size HB.out))
        have HO309 := Aside0.mk (Kd.R_lower (Kd.R_new' (Kd.R_new' (Kd.R_new' (Kd.R_new' (Kd.R_new' (Kd.R_new' (Kd.R_new' (Kd.R_new' ho1 (Kd.R_lt HO234.out)) (Kd.R_lt HO237.out)) (Kd.R_lt HO244.out)) (Kd.R_lt HO247.out)) (Kd.R_lt HO254.out)) (Kd.R_lt HO257.out)) (Kd.R_lt HO264.out)) (Kd.R_lt HO267.out)) (below_size HB.out))
        replace HO234 := Aside0.mk (Kd.R_mono (Kd.R_told (Kd.R_told (Kd.R_old HO234.out hb) (Kd.R_base ho0)) (Kd.R_base ho1)) (fun _ h_ => h_.1))
        replace HO237 := Aside0.mk (Kd.R_mono (Kd.R_told (Kd.R_told (Kd.R_old HO237.out hb) (Kd.R_base ho0)) (Kd.R_base ho1)) (fun _ h_ => h_.1))
        replace HO244 := Aside0.mk (Kd.R_mono (Kd.R_told (Kd.R_told (Kd.R_old HO244.out hb) (Kd.R_base ho0)) (Kd.R_base ho1)) (fun _ h_ => h_.1))
        replace HO247 := Aside0.mk (Kd.R_mono (Kd.R_told (Kd.R_told (Kd.R_old HO247.out hb) (Kd.R_base ho0)) (Kd.R_base ho1)) (fun _ h_ => h_.1))
        replace HO254 := Aside0.mk (Kd.R_mono (Kd.R_told (Kd.R_told (Kd.R_old HO254.out hb) (Kd.R_base ho0)) (Kd.R_base ho1)) (fun _ h_ => h_.1))
        replace HO257 := Aside0.mk (Kd.R_mono (Kd.R_told (Kd.R_told (Kd.R_old HO257.out hb) (Kd.R_base ho0)) (Kd.R_base ho1)) (fun _ h_ => h_.1))
        replace HO264 := Aside0.mk (Kd.R_mono (Kd.R_told (Kd.R_told (Kd.R_old HO264.out hb) (Kd.R_base ho0)) (Kd.R_base ho1)) (fun _ h_ => h_.1))
        replace HO267 := Aside0.mk (Kd.R_mono (Kd.R_told (Kd.R_told (Kd.R_old HO267.out hb) (Kd.R_base ho0)) (Kd.R_base ho1)) (fun _ h_ => h_.1))
        replace BK207 := Aside0.mk (blk_below BK207.out hb)
        replace BK208 := Aside0.mk (blk_below BK208.out hb)
        replace BK238 := Aside0.mk (blk_below BK238.out hb)
        replace BK248 := Aside0.mk (blk_below BK248.out hb)
        replace BK258 := Aside0.mk (blk_below BK258.out hb)
        replace BK268 := Aside0.mk (blk_below BK268.out hb)
        replace HB := Aside0.mk (below_step HB.out hb)
        (try clear hb)
        (try clear hb2)
        (try clear hk)
        (try clear hi)
        (try clear ho0)
        (try clear ho1)
        refine hK.out _ _ ⟨(blk_cell BK207.out 0).trans rfl, (blk_cell BK207.out 1).trans rfl, (blk_cell BK207.out 2).trans rfl, (blk_cell BK207.out 3).trans rfl, (blk_cell BK207.out 4).trans rfl, (blk_cell BK208.out 0).trans rfl, (blk_cell BK208.out 1).trans rfl, (blk_cell BK208.out 2).trans rfl, (blk_cell BK208.out 3).trans rfl, (blk_cell BK208.out 4).trans rfl⟩ (fun hHeld => ?_)
        clear hK K
        refine norm_ (a' := ?_) ?_ ?_
        rotate_left
        ·show Act.put _ (some 76) _ = _
         simp only [Act.put, List.setIfInBounds_toArray, List.set_cons_zero, List.set_cons_succ, i64_w, i32_w]
         rfl
        refine two_ (i := 3) (j := 5) (Ni := some 78) (Nj := some 13) #[true, true, true, true, false, false, false] #[true, true, true, false, false, true, false] rfl rfl rfl rfl (by kernel_rfl) (by decide) (by decide) (fun K hK => ?_) (fun K hK => ?_)
        ·skip
         refine goes_ Try.func13 (by kernel_rfl) rfl #[.agg #[.int .i64 a1_0, .int .i64 a1_1, .int .i64 a1_2, .slice A1_3 l1_3.length c1_3, .slice A1_4 l1_4.length c1_4]] (by rfl) rfl rfl (by (try simp only [List.map_toArray, List.map_cons, List.map_nil]); first | done | rfl) ?_
         with_reducible refine (laws_toPattern.calls k a1_0 a1_1 a1_2 _ _ l1_3 _ _ l1_4 t310 t311 t312 t313 t316 _ ?side1 ?side2 ?side3 ?side4 A43.out).mono ?_
         (case side1 => exact (Kd.C_below HR1_3.out HB.out))
         (case side2 => exact HC1_3.out)
         (case side3 => exact (Kd.C_below HR1_4.out HB.out))
         (case side4 => exact HC1_4.out)
         rintro e w131 ⟨v314, v317, rfl, ho0, ho1, hb⟩
         refine ⟨_, rfl, ?_⟩
         have HO315 := Aside0.mk (Kd.R_lower (Kd.R_new' (Kd.R_new' (Kd.R_new' (Kd.R_new' (Kd.R_new' (Kd.R_new' (Kd.R_new' (Kd.R_new' (Kd.R_new' (Kd.R_new' ho0 (Kd.R_lt HO234.out)) (Kd.R_lt HO237.out)) (Kd.R_lt HO244.out)) (Kd.R_lt HO247.out)) (Kd.R_lt HO254.out)) (Kd.R_lt HO257.out)) (Kd.R_lt HO264.out)) (Kd.R_lt HO267.out)) (Kd.R_lt HO306.out)) (Kd.R_lt HO309.out)) (below_size HB.out))
         have HO318 := Aside0.mk (Kd.R_lower (Kd.R_new' (Kd.R_new' (Kd.R_new' (Kd.R_new' (Kd.R_new' (Kd.R_new' (Kd.R_new' (Kd.R_new' (Kd.R_new' (Kd.R_new' ho1 (Kd.R_lt HO234.out)) (Kd.R_lt HO237.out)) (Kd.R_lt HO244.out)) (Kd.R_lt HO247.out)) (Kd.R_lt HO254.out)) (Kd.R_lt HO257.out)) (Kd.R_lt HO264.out)) (Kd.R_lt HO267.out)) (Kd.R_lt HO306.out)) (Kd.R_lt HO309.out)) (below_size HB.out))
         replace HO234 := Aside0.mk (Kd.R_mono (Kd.R_told (Kd.R_told (Kd.R_old HO234.out hb) (Kd.R_base ho0)) (Kd.R_base ho1)) (fun _ h_ => h_.1))
         replace HO237 := Aside0.mk (Kd.R_mono (Kd.R_told (Kd.R_told (Kd.R_old HO237.out hb) (Kd.R_base ho0)) (Kd.R_base ho1)) (fun _ h_ => h_.1))
         replace HO244 := Aside0.mk (Kd.R_mono (Kd.R_told (Kd.R_told (Kd.R_old HO244.out hb) (Kd.R_base ho0)) (Kd.R_base ho1)) (fun _ h_ => h_.1))
         replace HO247 := Aside0.mk (Kd.R_mono (Kd.R_told (Kd.R_told (Kd.R_old HO247.out hb) (Kd.R_base ho0)) (Kd.R_base ho1)) (fun _ h_ => h_.1))
         replace HO254 := Aside0.mk (Kd.R_mono (Kd.R_told (Kd.R_told (Kd.R_old HO254.out hb) (Kd.R_base ho0)) (Kd.R_base ho1)) (fun _ h_ => h_.1))
         replace HO257 := Aside0.mk (Kd.R_mono (Kd.R_told (Kd.R_told (Kd.R_old HO257.out hb) (Kd.R_base ho0)) (Kd.R_base ho1)) (fun _ h_ => h_.1))
         replace HO264 := Aside0.mk (Kd.R_mono (Kd.R_told (Kd.R_told (Kd.R_old HO264.out hb) (Kd.R_base ho0)) (Kd.R_base ho1)) (fun _ h_ => h_.1))
         replace HO267 := Aside0.mk (Kd.R_mono (Kd.R_told (Kd.R_told (Kd.R_old HO267.out hb) (Kd.R_base ho0)) (Kd.R_base ho1)) (fun _ h_ => h_.1))
         replace HO306 := Aside0.mk (Kd.R_mono (Kd.R_told (Kd.R_told (Kd.R_old HO306.out hb) (Kd.R_base ho0)) (Kd.R_base ho1)) (fun _ h_ => h_.1))
         replace HO309 := Aside0.mk (Kd.R_mono (Kd.R_told (Kd.R_told (Kd.R_old HO309.out hb) (Kd.R_base ho0)) (Kd.R_base ho1)) (fun _ h_ => h_.1))
         replace BK207 := Aside0.mk (blk_below BK207.out hb)
         replace BK208 := Aside0.mk (blk_below BK208.out hb)
         replace BK238 := Aside0.mk (blk_below BK238.out hb)
         replace BK248 := Aside0.mk (blk_below BK248.out hb)
         replace BK258 := Aside0.mk (blk_below BK258.out hb)
         replace BK268 := Aside0.mk (blk_below BK268.out hb)
         replace HB := Aside0.mk (below_step HB.out hb)
         (try clear hb)
         (try clear hb2)
         (try clear hk)
         (try clear hi)
         (try clear ho0)
         (try clear ho1)
         obtain ⟨Ao132, co132, eo132⟩ := Kd.R_slice HO306.out
         (first | subst eo132 | (injection eo132 with f1_ f2_ f3_; have f4_ := f1_.symm; have f5_ := f3_.symm; clear f1_ f2_ f3_; subst f4_; subst f5_))
         obtain ⟨Ao133, co133, eo133⟩ := Kd.R_slice HO309.out
         (first | subst eo133 | (injection eo133 with f1_ f2_ f3_; have f4_ := f1_.symm; have f5_ := f3_.symm; clear f1_ f2_ f3_; subst f4_; subst f5_))
         obtain ⟨Ao134, co134, eo134⟩ := Kd.R_slice HO315.out
         (first | subst eo134 | (injection eo134 with f1_ f2_ f3_; have f4_ := f1_.symm; have f5_ := f3_.symm; clear f1_ f2_ f3_; subst f4_; subst f5_))
         obtain ⟨Ao135, co135, eo135⟩ := Kd.R_slice HO318.out
         (first | subst eo135 | (injection eo135 with f1_ f2_ f3_; have f4_ := f1_.symm; have f5_ := f3_.symm; clear f1_ f2_ f3_; subst f4_; subst f5_))
         refine hK.out _ _ ⟨(blk_cell BK207.out 0).trans rfl, (blk_cell BK207.out 1).trans rfl, (blk_cell BK207.out 2).trans rfl, (blk_cell BK207.out 3).trans rfl, (blk_cell BK207.out 4).trans rfl, (blk_cell BK208.out 0).trans rfl, (blk_cell BK208.out 1).trans rfl, (blk_cell BK208.out 2).trans rfl, (blk_cell BK208.out 3).trans rfl, (blk_cell BK208.out 4).trans rfl⟩ (fun hHeld => ?_)
         clear hK K
         refine norm_ (a' := ?_) ?_ ?_
         rotate_left
         ·show Act.put _ (some 78) _ = _
          simp only [Act.put, List.setIfInBounds_toArray, List.set_cons_zero, List.set_cons_succ, i64_w, i32_w]
          rfl
         refine two_ (i := 4) (j := 5) (Ni := some 79) (Nj := some 13) #[true, true, true, true, true, false, false] #[true, true, true, true, false, true, false] rfl rfl rfl rfl (by kernel_rfl) (by decide) (by decide) (fun K hK => ?_) (fun K hK => ?_)
         ·skip
          refine goes_ Try.func31 (by kernel_rfl) rfl #[.agg #[.int .i64 t301, .int .i64 t302, .int .i64 t303, .slice Ao132 t304.length co132, .slice Ao133 t307.length co133], .agg #[.int .i64 t310, .int .i64 t311, .int .i64 t312, .slice Ao134 t313.length co134, .slice Ao135 t316.length co135]] (by rfl) rfl rfl (by (try simp only [List.map_toArray, List.map_cons, List.map_nil]); first | done | rfl) ?_
          with_reducible refine (impl_Both.calls k t301 t302 t303 _ _ t304 _ _ t307 t310 t311 t312 _ _ t313 _ _ t316 t319 t320 t321 t322 t325 _ ?side1 ?side2 ?side3 ?side4 ?side5 ?side6 ?side7 ?side8 A44.out).mono ?_
          (case side1 => exact (Kd.R_reads' HO306.out).2.2)
          (case side2 => exact (Kd.R_reads' HO306.out).2.1)
          (case side3 => exact (Kd.R_reads' HO309.out).2.2)
          (case side4 => exact (Kd.R_reads' HO309.out).2.1)
          (case side5 => exact (Kd.R_reads' HO315.out).2.2)
          (case side6 => exact (Kd.R_reads' HO315.out).2.1)
          (case side7 => exact (Kd.R_reads' HO318.out).2.2)
          (case side8 => exact (Kd.R_reads' HO318.out).2.1)
          rintro e w136 ⟨v323, v326, rfl, ho0, ho1, hb⟩
          refine ⟨_, rfl, ?_⟩
          have HO324 := Aside0.mk (Kd.R_lower (Kd.R_new' (Kd.R_new' (Kd.R_new' (Kd.R_new' (Kd.R_new' (Kd.R_new' (Kd.R_new' (Kd.R_new' (Kd.R_new' (Kd.R_new' (Kd.R_new' (Kd.R_new' ho0 (Kd.R_lt HO234.out)) (Kd.R_lt HO237.out)) (Kd.R_lt HO244.out)) (Kd.R_lt HO247.out)) (Kd.R_lt HO254.out)) (Kd.R_lt HO257.out)) (Kd.R_lt HO264.out)) (Kd.R_lt HO267.out)) (Kd.R_lt HO306.out)) (Kd.R_lt HO309.out)) (Kd.R_lt HO315.out)) (Kd.R_lt HO318.out)) (below_size HB.out))
          have HO327 := Aside0.mk (Kd.R_lower (Kd.R_new' (Kd.R_new' (Kd.R_new' (Kd.R_new' (Kd.R_new' (Kd.R_new' (Kd.R_new' (Kd.R_new' (Kd.R_new' (Kd.R_new' (Kd.R_new' (Kd.R_new' ho1 (Kd.R_lt HO234.out)) (Kd.R_lt HO237.out)) (Kd.R_lt HO244.out)) (Kd.R_lt HO247.out)) (Kd.R_lt HO254.out)) (Kd.R_lt HO257.out)) (Kd.R_lt HO264.out)) (Kd.R_lt HO267.out)) (Kd.R_lt HO306.out)) (Kd.R_lt HO309.out)) (Kd.R_lt HO315.out)) (Kd.R_lt HO318.out)) (below_size HB.out))
          replace HO234 := Aside0.mk (Kd.R_mono (Kd.R_told (Kd.R_told (Kd.R_old HO234.out hb) (Kd.R_base ho0)) (Kd.R_base ho1)) (fun _ h_ => h_.1))
          replace HO237 := Aside0.mk (Kd.R_mono (Kd.R_told (Kd.R_told (Kd.R_old HO237.out hb) (Kd.R_base ho0)) (Kd.R_base ho1)) (fun _ h_ => h_.1))
          replace HO244 := Aside0.mk (Kd.R_mono (Kd.R_told (Kd.R_told (Kd.R_old HO244.out hb) (Kd.R_base ho0)) (Kd.R_base ho1)) (fun _ h_ => h_.1))
          replace HO247 := Aside0.mk (Kd.R_mono (Kd.R_told (Kd.R_told (Kd.R_old HO247.out hb) (Kd.R_base ho0)) (Kd.R_base ho1)) (fun _ h_ => h_.1))
          replace HO254 := Aside0.mk (Kd.R_mono (Kd.R_told (Kd.R_told (Kd.R_old HO254.out hb) (Kd.R_base ho0)) (Kd.R_base ho1)) (fun _ h_ => h_.1))
          replace HO257 := Aside0.mk (Kd.R_mono (Kd.R_told (Kd.R_told (Kd.R_old HO257.out hb) (Kd.R_base ho0)) (Kd.R_base ho1)) (fun _ h_ => h_.1))
          replace HO264 := Aside0.mk (Kd.R_mono (Kd.R_told (Kd.R_told (Kd.R_old HO264.out hb) (Kd.R_base ho0)) (Kd.R_base ho1)) (fun _ h_ => h_.1))
          replace HO267 := Aside0.mk (Kd.R_mono (Kd.R_told (Kd.R_told (Kd.R_old HO267.out hb) (Kd.R_base ho0)) (Kd.R_base ho1)) (fun _ h_ => h_.1))
          replace HO306 := Aside0.mk (Kd.R_mono (Kd.R_told (Kd.R_told (Kd.R_old HO306.out hb) (Kd.R_base ho0)) (Kd.R_base ho1)) (fun _ h_ => h_.1))
          replace HO309 := Aside0.mk (Kd.R_mono (Kd.R_told (Kd.R_told (Kd.R_old HO309.out hb) (Kd.R_base ho0)) (Kd.R_base ho1)) (fun _ h_ => h_.1))
          replace HO315 := Aside0.mk (Kd.R_mono (Kd.R_told (Kd.R_told (Kd.R_old HO315.out hb) (Kd.R_base ho0)) (Kd.R_base ho1)) (fun _ h_ => h_.1))
          replace HO318 := Aside0.mk (Kd.R_mono (Kd.R_told (Kd.R_told (Kd.R_old HO318.out hb) (Kd.R_base ho0)) (Kd.R_base ho1)) (fun _ h_ => h_.1))
          replace BK207 := Aside0.mk (blk_below BK207.out hb)
          replace BK208 := Aside0.mk (blk_below BK208.out hb)
          replace BK238 := Aside0.mk (blk_below BK238.out hb)
          replace BK248 := Aside0.mk (blk_below BK248.out hb)
          replace BK258 := Aside0.mk (blk_below BK258.out hb)
          replace BK268 := Aside0.mk (blk_below BK268.out hb)
          replace HB := Aside0.mk (below_step HB.out hb)
          (try clear hb)
          (try clear hb2)
          (try clear hk)
          (try clear hi)
          (try clear ho0)
          (try clear ho1)
          refine hK.out _ _ ⟨(blk_cell BK207.out 0).trans rfl, (blk_cell BK207.out 1).trans rfl, (blk_cell BK207.out 2).trans rfl, (blk_cell BK207.out 3).trans rfl, (blk_cell BK207.out 4).trans rfl, (blk_cell BK208.out 0).trans rfl, (blk_cell BK208.out 1).trans rfl, (blk_cell BK208.out 2).trans rfl, (blk_cell BK208.out 3).trans rfl, (blk_cell BK208.out 4).trans rfl⟩ (fun hHeld => ?_)
          clear hK K
          refine norm_ (a' := ?_) ?_ ?_
          rotate_left
          ·show Act.put _ (some 79) _ = _
           simp only [Act.put, List.setIfInBounds_toArray, List.set_cons_zero, List.set_cons_succ, i64_w, i32_w]
           rfl
          refine one_ (i := 5) (N := some 13) #[true, true, true, true, true, true, false] rfl rfl (by kernel_rfl) (by decide) (fun K hK => ?_)
          refine box_step ?hg (N := 13) ?hd (cs := #[.int .i64 0, .int .i64 0, .int .i64 0, .slice none 0 0, .slice none 0 0]) (t := 27) ?hr ?_; (case hd => rfl); (case hg => rfl); (case hr => first | (go_simp; done) | (go_simp; rfl))
          intro gb328 hg w137 hbox hb
          replace HO234 := Aside0.mk (Kd.R_below HO234.out hb)
          replace HO237 := Aside0.mk (Kd.R_below HO237.out hb)
          replace HO244 := Aside0.mk (Kd.R_below HO244.out hb)
          replace HO247 := Aside0.mk (Kd.R_below HO247.out hb)
          replace HO254 := Aside0.mk (Kd.R_below HO254.out hb)
          replace HO257 := Aside0.mk (Kd.R_below HO257.out hb)
          replace HO264 := Aside0.mk (Kd.R_below HO264.out hb)
          replace HO267 := Aside0.mk (Kd.R_below HO267.out hb)
          replace HO306 := Aside0.mk (Kd.R_below HO306.out hb)
          replace HO309 := Aside0.mk (Kd.R_below HO309.out hb)
          replace HO315 := Aside0.mk (Kd.R_below HO315.out hb)
          replace HO318 := Aside0.mk (Kd.R_below HO318.out hb)
          replace HO324 := Aside0.mk (Kd.R_below HO324.out hb)
          replace HO327 := Aside0.mk (Kd.R_below HO327.out hb)
          have BK328 := Aside0.mk (hbox)
          have GW328 := Aside0.mk ((by rw [hg]; exact (below_size HB.out) : w.heap.size ≤ gb328))
          have GE328 := Aside0.mk ((by rw [hg]; exact (below_size HB.out) : w.heap.size ≤ gb328))
          replace HB := Aside0.mk (below_step HB.out hb)
          have NB207_328 := Aside0.mk ((by rw [hg]; exact Nat.ne_of_lt (blk_lt BK207.out) : gb207 ≠ gb328))
          have NB328_207 := Aside0.mk ((by rw [hg]; exact Nat.ne_of_gt (blk_lt BK207.out) : gb328 ≠ gb207))
          replace BK207 := Aside0.mk (blk_below BK207.out hb)
          have NB208_328 := Aside0.mk ((by rw [hg]; exact Nat.ne_of_lt (blk_lt BK208.out) : gb208 ≠ gb328))
          have NB328_208 := Aside0.mk ((by rw [hg]; exact Nat.ne_of_gt (blk_lt BK208.out) : gb328 ≠ gb208))
          replace BK208 := Aside0.mk (blk_below BK208.out hb)
          have NB238_328 := Aside0.mk ((by rw [hg]; exact Nat.ne_of_lt (blk_lt BK238.out) : gb238 ≠ gb328))
          have NB328_238 := Aside0.mk ((by rw [hg]; exact Nat.ne_of_gt (blk_lt BK238.out) : gb328 ≠ gb238))
          replace BK238 := Aside0.mk (blk_below BK238.out hb)
          have NB248_328 := Aside0.mk ((by rw [hg]; exact Nat.ne_of_lt (blk_lt BK248.out) : gb248 ≠ gb328))
          have NB328_248 := Aside0.mk ((by rw [hg]; exact Nat.ne_of_gt (blk_lt BK248.out) : gb328 ≠ gb248))
          replace BK248 := Aside0.mk (blk_below BK248.out hb)
          have NB258_328 := Aside0.mk ((by rw [hg]; exact Nat.ne_of_lt (blk_lt BK258.out) : gb258 ≠ gb328))
          have NB328_258 := Aside0.mk ((by rw [hg]; exact Nat.ne_of_gt (blk_lt BK258.out) : gb328 ≠ gb258))
          replace BK258 := Aside0.mk (blk_below BK258.out hb)
          have NB268_328 := Aside0.mk ((by rw [hg]; exact Nat.ne_of_lt (blk_lt BK268.out) : gb268 ≠ gb328))
          have NB328_268 := Aside0.mk ((by rw [hg]; exact Nat.ne_of_gt (blk_lt BK268.out) : gb328 ≠ gb268))
          replace BK268 := Aside0.mk (blk_below BK268.out hb)
          clear hb hbox hg
          refine hK.out _ _ ⟨(blk_cell BK207.out 0).trans rfl, (blk_cell BK207.out 1).trans rfl, (blk_cell BK207.out 2).trans rfl, (blk_cell BK207.out 3).trans rfl, (blk_cell BK207.out 4).trans rfl, (blk_cell BK208.out 0).trans rfl, (blk_cell BK208.out 1).trans rfl, (blk_cell BK208.out 2).trans rfl, (blk_cell BK208.out 3).trans rfl, (blk_cell BK208.out 4).trans rfl⟩ (fun hHeld => ?_)
          clear hK K
          refine norm_ (a' := ?_) ?_ ?_
          rotate_left
          ·show Act.put _ (some 13) _ = _
           simp only [Act.put, List.setIfInBounds_toArray, List.set_cons_zero, List.set_cons_succ, i64_w, i32_w]
           rfl
          exact norm_ (by simp only [putAll, Act.put, List.setIfInBounds_toArray, List.set_cons_zero, List.set_cons_succ]) (hCont (.slice Ao132 t304.length co132, .slice Ao133 t307.length co133, .slice Ao134 t313.length co134, .slice Ao135 t316.length co135, v323, v326, gb328) _ ⟨hHeld, (Kd.R_mono HO234.out (fun _ => pmBothx8_4)), (Kd.R_mono HO237.out (fun _ => pmBothx8_4)), (Kd.R_mono HO244.out (fun _ => pmBothx8_4)), (Kd.R_mono HO247.out (fun _ => pmBothx8_4)), (Kd.R_mono HO254.out (fun _ => pmBothx8_4)), (Kd.R_mono HO257.out (fun _ => pmBothx8_4)), (Kd.R_mono HO264.out (fun _ => pmBothx8_4)), (Kd.R_mono HO267.out (fun _ => pmBothx8_4)), (Kd.R_mono HO306.out (fun _ => pmBothx8_5)), (Kd.R_mono HO309.out (fun _ => pmBothx8_5)), (Kd.R_mono HO315.out (fun _ => pmBothx8_6)), (Kd.R_mono HO318.out (fun _ => pmBothx8_6)), (Kd.R_mono HO324.out (fun _ => pmBothx8_7)), (Kd.R_mono HO327.out (fun _ => pmBothx8_7)), BK207.out, BK208.out, BK238.out, BK248.out, BK258.out, BK268.out, BK328.out, GW328.out, GE328.out, NB207_328.out, NB328_207.out, NB208_328.out, NB328_208.out, NB238_328.out, NB328_238.out, NB248_328.out, NB328_248.out, NB258_328.out, NB328_258.out, NB268_328.out, NB328_268.out, HB.out⟩)
         ·skip
          refine box_step ?hg (N := 13) ?hd (cs := #[.int .i64 0, .int .i64 0, .int .i64 0, .slice none 0 0, .slice none 0 0]) (t := 27) ?hr ?_; (case hd => rfl); (case hg => rfl); (case hr => first | (go_simp; done) | (go_simp; rfl))
          intro gb328 hg w132 hbox hb
          replace HO234 := Aside0.mk (Kd.R_below HO234.out hb)
          replace HO237 := Aside0.mk (Kd.R_below HO237.out hb)
          replace HO244 := Aside0.mk (Kd.R_below HO244.out hb)
          replace HO247 := Aside0.mk (Kd.R_below HO247.out hb)
          replace HO254 := Aside0.mk (Kd.R_below HO254.out hb)
          replace HO257 := Aside0.mk (Kd.R_below HO257.out hb)
          replace HO264 := Aside0.mk (Kd.R_below HO264.out hb)
          replace HO267 := Aside0.mk (Kd.R_below HO267.out hb)
          replace HO306 := Aside0.mk (Kd.R_below HO306.out hb)
          replace HO309 := Aside0.mk (Kd.R_below HO309.out hb)
          replace HO315 := Aside0.mk (Kd.R_below HO315.out hb)
          replace HO318 := Aside0.mk (Kd.R_below HO318.out hb)
          have BK328 := Aside0.mk (hbox)
          have GW328 := Aside0.mk ((by rw [hg]; exact (below_size HB.out) : w.heap.size ≤ gb328))
          have GE328 := Aside0.mk ((by rw [hg]; exact (below_size HB.out) : w.heap.size ≤ gb328))
          replace HB := Aside0.mk (below_step HB.out hb)
          have NB207_328 := Aside0.mk ((by rw [hg]; exact Nat.ne_of_lt (blk_lt BK207.out) : gb207 ≠ gb328))
          have NB328_207 := Aside0.mk ((by rw [hg]; exact Nat.ne_of_gt (blk_lt BK207.out) : gb328 ≠ gb207))
          replace BK207 := Aside0.mk (blk_below BK207.out hb)
          have NB208_328 := Aside0.mk ((by rw [hg]; exact Nat.ne_of_lt (blk_lt BK208.out) : gb208 ≠ gb328))
          have NB328_208 := Aside0.mk ((by rw [hg]; exact Nat.ne_of_gt (blk_lt BK208.out) : gb328 ≠ gb208))
          replace BK208 := Aside0.mk (blk_below BK208.out hb)
          have NB238_328 := Aside0.mk ((by rw [hg]; exact Nat.ne_of_lt (blk_lt BK238.out) : gb238 ≠ gb328))
          have NB328_238 := Aside0.mk ((by rw [hg]; exact Nat.ne_of_gt (blk_lt BK238.out) : gb328 ≠ gb238))
          replace BK238 := Aside0.mk (blk_below BK238.out hb)
          have NB248_328 := Aside0.mk ((by rw [hg]; exact Nat.ne_of_lt (blk_lt BK248.out) : gb248 ≠ gb328))
          have NB328_248 := Aside0.mk ((by rw [hg]; exact Nat.ne_of_gt (blk_lt BK248.out) : gb328 ≠ gb248))
          replace BK248 := Aside0.mk (blk_below BK248.out hb)
          have NB258_328 := Aside0.mk ((by rw [hg]; exact Nat.ne_of_lt (blk_lt BK258.out) : gb258 ≠ gb328))
          have NB328_258 := Aside0.mk ((by rw [hg]; exact Nat.ne_of_gt (blk_lt BK258.out) : gb328 ≠ gb258))
          replace BK258 := Aside0.mk (blk_below BK258.out hb)
          have NB268_328 := Aside0.mk ((by rw [hg]; exact Nat.ne_of_lt (blk_lt BK268.out) : gb268 ≠ gb328))
          have NB328_268 := Aside0.mk ((by rw [hg]; exact Nat.ne_of_gt (blk_lt BK268.out) : gb328 ≠ gb268))
          replace BK268 := Aside0.mk (blk_below BK268.out hb)
          clear hb hbox hg
          obtain ⟨Ao133, co133, eo133⟩ := Kd.R_slice HO306.out
          (first | subst eo133 | (injection eo133 with f1_ f2_ f3_; have f4_ := f1_.symm; have f5_ := f3_.symm; clear f1_ f2_ f3_; subst f4_; subst f5_))
          obtain ⟨Ao134, co134, eo134⟩ := Kd.R_slice HO309.out
          (first | subst eo134 | (injection eo134 with f1_ f2_ f3_; have f4_ := f1_.symm; have f5_ := f3_.symm; clear f1_ f2_ f3_; subst f4_; subst f5_))
          obtain ⟨Ao135, co135, eo135⟩ := Kd.R_slice HO315.out
          (first | subst eo135 | (injection eo135 with f1_ f2_ f3_; have f4_ := f1_.symm; have f5_ := f3_.symm; clear f1_ f2_ f3_; subst f4_; subst f5_))
          obtain ⟨Ao136, co136, eo136⟩ := Kd.R_slice HO318.out
          (first | subst eo136 | (injection eo136 with f1_ f2_ f3_; have f4_ := f1_.symm; have f5_ := f3_.symm; clear f1_ f2_ f3_; subst f4_; subst f5_))
          refine hK.out _ _ ⟨(blk_cell BK207.out 0).trans rfl, (blk_cell BK207.out 1).trans rfl, (blk_cell BK207.out 2).trans rfl, (blk_cell BK207.out 3).trans rfl, (blk_cell BK207.out 4).trans rfl, (blk_cell BK208.out 0).trans rfl, (blk_cell BK208.out 1).trans rfl, (blk_cell BK208.out 2).trans rfl, (blk_cell BK208.out 3).trans rfl, (blk_cell BK208.out 4).trans rfl⟩ (fun hHeld => ?_)
          clear hK K
          refine norm_ (a' := ?_) ?_ ?_
          rotate_left
          ·show Act.put _ (some 13) _ = _
           simp only [Act.put, List.setIfInBounds_toArray, List.set_cons_zero, List.set_cons_succ, i64_w, i32_w]
           rfl
          refine one_ (i := 4) (N := some 79) #[true, true, true, true, true, true, false] rfl rfl (by kernel_rfl) (by decide) (fun K hK => ?_)
          refine goes_ Try.func31 (by kernel_rfl) rfl #[.agg #[.int .i64 t301, .int .i64 t302, .int .i64 t303, .slice Ao133 t304.length co133, .slice Ao134 t307.length co134], .agg #[.int .i64 t310, .int .i64 t311, .int .i64 t312, .slice Ao135 t313.length co135, .slice Ao136 t316.length co136]] (by rfl) rfl rfl (by (try simp only [List.map_toArray, List.map_cons, List.map_nil]); first | done | rfl) ?_
          with_reducible refine (impl_Both.calls k t301 t302 t303 _ _ t304 _ _ t307 t310 t311 t312 _ _ t313 _ _ t316 t319 t320 t321 t322 t325 _ ?side1 ?side2 ?side3 ?side4 ?side5 ?side6 ?side7 ?side8 A44.out).mono ?_
          (case side1 => exact (Kd.R_reads' HO306.out).2.2)
          (case side2 => exact (Kd.R_reads' HO306.out).2.1)
          (case side3 => exact (Kd.R_reads' HO309.out).2.2)
          (case side4 => exact (Kd.R_reads' HO309.out).2.1)
          (case side5 => exact (Kd.R_reads' HO315.out).2.2)
          (case side6 => exact (Kd.R_reads' HO315.out).2.1)
          (case side7 => exact (Kd.R_reads' HO318.out).2.2)
          (case side8 => exact (Kd.R_reads' HO318.out).2.1)
          rintro e w137 ⟨v323, v326, rfl, ho0, ho1, hb⟩
          refine ⟨_, rfl, ?_⟩
          have HO324 := Aside0.mk (Kd.R_lower (Kd.R_new' (Kd.R_new' (Kd.R_new' (Kd.R_new' (Kd.R_new' (Kd.R_new' (Kd.R_new' (Kd.R_new' (Kd.R_new' (Kd.R_new' (Kd.R_new' (Kd.R_new' ho0 (Kd.R_lt HO234.out)) (Kd.R_lt HO237.out)) (Kd.R_lt HO244.out)) (Kd.R_lt HO247.out)) (Kd.R_lt HO254.out)) (Kd.R_lt HO257.out)) (Kd.R_lt HO264.out)) (Kd.R_lt HO267.out)) (Kd.R_lt HO306.out)) (Kd.R_lt HO309.out)) (Kd.R_lt HO315.out)) (Kd.R_lt HO318.out)) (below_size HB.out))
          have HO327 := Aside0.mk (Kd.R_lower (Kd.R_new' (Kd.R_new' (Kd.R_new' (Kd.R_new' (Kd.R_new' (Kd.R_new' (Kd.R_new' (Kd.R_new' (Kd.R_new' (Kd.R_new' (Kd.R_new' (Kd.R_new' ho1 (Kd.R_lt HO234.out)) (Kd.R_lt HO237.out)) (Kd.R_lt HO244.out)) (Kd.R_lt HO247.out)) (Kd.R_lt HO254.out)) (Kd.R_lt HO257.out)) (Kd.R_lt HO264.out)) (Kd.R_lt HO267.out)) (Kd.R_lt HO306.out)) (Kd.R_lt HO309.out)) (Kd.R_lt HO315.out)) (Kd.R_lt HO318.out)) (below_size HB.out))
          replace HO234 := Aside0.mk (Kd.R_mono (Kd.R_told (Kd.R_told (Kd.R_old HO234.out hb) (Kd.R_base ho0)) (Kd.R_base ho1)) (fun _ h_ => h_.1))
          replace HO237 := Aside0.mk (Kd.R_mono (Kd.R_told (Kd.R_told (Kd.R_old HO237.out hb) (Kd.R_base ho0)) (Kd.R_base ho1)) (fun _ h_ => h_.1))
          replace HO244 := Aside0.mk (Kd.R_mono (Kd.R_told (Kd.R_told (Kd.R_old HO244.out hb) (Kd.R_base ho0)) (Kd.R_base ho1)) (fun _ h_ => h_.1))
          replace HO247 := Aside0.mk (Kd.R_mono (Kd.R_told (Kd.R_told (Kd.R_old HO247.out hb) (Kd.R_base ho0)) (Kd.R_base ho1)) (fun _ h_ => h_.1))
          replace HO254 := Aside0.mk (Kd.R_mono (Kd.R_told (Kd.R_told (Kd.R_old HO254.out hb) (Kd.R_base ho0)) (Kd.R_base ho1)) (fun _ h_ => h_.1))
          replace HO257 := Aside0.mk (Kd.R_mono (Kd.R_told (Kd.R_told (Kd.R_old HO257.out hb) (Kd.R_base ho0)) (Kd.R_base ho1)) (fun _ h_ => h_.1))
          replace HO264 := Aside0.mk (Kd.R_mono (Kd.R_told (Kd.R_told (Kd.R_old HO264.out hb) (Kd.R_base ho0)) (Kd.R_base ho1)) (fun _ h_ => h_.1))
          replace HO267 := Aside0.mk (Kd.R_mono (Kd.R_told (Kd.R_told (Kd.R_old HO267.out hb) (Kd.R_base ho0)) (Kd.R_base ho1)) (fun _ h_ => h_.1))
          replace HO306 := Aside0.mk (Kd.R_mono (Kd.R_told (Kd.R_told (Kd.R_old HO306.out hb) (Kd.R_base ho0)) (Kd.R_base ho1)) (fun _ h_ => h_.1))
          replace HO309 := Aside0.mk (Kd.R_mono (Kd.R_told (Kd.R_told (Kd.R_old HO309.out hb) (Kd.R_base ho0)) (Kd.R_base ho1)) (fun _ h_ => h_.1))
          replace HO315 := Aside0.mk (Kd.R_mono (Kd.R_told (Kd.R_told (Kd.R_old HO315.out hb) (Kd.R_base ho0)) (Kd.R_base ho1)) (fun _ h_ => h_.1))
          replace HO318 := Aside0.mk (Kd.R_mono (Kd.R_told (Kd.R_told (Kd.R_old HO318.out hb) (Kd.R_base ho0)) (Kd.R_base ho1)) (fun _ h_ => h_.1))
          replace BK207 := Aside0.mk (blk_below BK207.out hb)
          replace BK208 := Aside0.mk (blk_below BK208.out hb)
          replace BK238 := Aside0.mk (blk_below BK238.out hb)
          replace BK248 := Aside0.mk (blk_below BK248.out hb)
          replace BK258 := Aside0.mk (blk_below BK258.out hb)
          replace BK268 := Aside0.mk (blk_below BK268.out hb)
          replace BK328 := Aside0.mk (blk_below BK328.out hb)
          replace HB := Aside0.mk (below_step HB.out hb)
          (try clear hb)
          (try clear hb2)
          (try clear hk)
          (try clear hi)
          (try clear ho0)
          (try clear ho1)
          refine hK.out _ _ ⟨(blk_cell BK207.out 0).trans rfl, (blk_cell BK207.out 1).trans rfl, (blk_cell BK207.out 2).trans rfl, (blk_cell BK207.out 3).trans rfl, (blk_cell BK207.out 4).trans rfl, (blk_cell BK208.out 0).trans rfl, (blk_cell BK208.out 1).trans rfl, (blk_cell BK208.out 2).trans rfl, (blk_cell BK208.out 3).trans rfl, (blk_cell BK208.out 4).trans rfl⟩ (fun hHeld => ?_)
          clear hK K
          refine norm_ (a' := ?_) ?_ ?_
          rotate_left
          ·show Act.put _ (some 79) _ = _
           simp only [Act.put, List.setIfInBounds_toArray, List.set_cons_zero, List.set_cons_succ, i64_w, i32_w]
           rfl
          exact norm_ (by simp only [putAll, Act.put, List.setIfInBounds_toArray, List.set_cons_zero, List.set_cons_succ]) (hCont (.slice Ao133 t304.length co133, .slice Ao134 t307.length co134, .slice Ao135 t313.length co135, .slice Ao136 t316.length co136, v323, v326, gb328) _ ⟨hHeld, (Kd.R_mono HO234.out (fun _ => pmBothx8_4)), (Kd.R_mono HO237.out (fun _ => pmBothx8_4)), (Kd.R_mono HO244.out (fun _ => pmBothx8_4)), (Kd.R_mono HO247.out (fun _ => pmBothx8_4)), (Kd.R_mono HO254.out (fun _ => pmBothx8_4)), (Kd.R_mono HO257.out (fun _ => pmBothx8_4)), (Kd.R_mono HO264.out (fun _ => pmBothx8_4)), (Kd.R_mono HO267.out (fun _ => pmBothx8_4)), (Kd.R_mono HO306.out (fun _ => pmBothx8_5)), (Kd.R_mono HO309.out (fun _ => pmBothx8_5)), (Kd.R_mono HO315.out (fun _ => pmBothx8_6)), (Kd.R_mono HO318.out (fun _ => pmBothx8_6)), (Kd.R_mono HO324.out (fun _ => pmBothx8_7)), (Kd.R_mono HO327.out (fun _ => pmBothx8_7)), BK207.out, BK208.out, BK238.out, BK248.out, BK258.out, BK268.out, BK328.out, GW328.out, GE328.out, NB207_328.out, NB328_207.out, NB208_328.out, NB328_208.out, NB238_328.out, NB328_238.out, NB248_328.out, NB328_248.out, NB258_328.out, NB328_258.out, NB268_328.out, NB328_268.out, HB.out⟩)
        ·skip
         refine box_step ?hg (N := 13) ?hd (cs := #[.int .i64 0, .int .i64 0, .int .i64 0, .slice none 0 0, .slice none 0 0]) (t := 27) ?hr ?_; (case hd => rfl); (case hg => rfl); (case hr => first | (go_simp; done) | (go_simp; rfl))
         intro gb328 hg w131 hbox hb
         replace HO234 := Aside0.mk (Kd.R_below HO234.out hb)
         replace HO237 := Aside0.mk (Kd.R_below HO237.out hb)
         replace HO244 := Aside0.mk (Kd.R_below HO244.out hb)
         replace HO247 := Aside0.mk (Kd.R_below HO247.out hb)
         replace HO254 := Aside0.mk (Kd.R_below HO254.out hb)
         replace HO257 := Aside0.mk (Kd.R_below HO257.out hb)
         replace HO264 := Aside0.mk (Kd.R_below HO264.out hb)
         replace HO267 := Aside0.mk (Kd.R_below HO267.out hb)
         replace HO306 := Aside0.mk (Kd.R_below HO306.out hb)
         replace HO309 := Aside0.mk (Kd.R_below HO309.out hb)
         have BK328 := Aside0.mk (hbox)
         have GW328 := Aside0.mk ((by rw [hg]; exact (below_size HB.out) : w.heap.size ≤ gb328))
         have GE328 := Aside0.mk ((by rw [hg]; exact (below_size HB.out) : w.heap.size ≤ gb328))
         replace HB := Aside0.mk (below_step HB.out hb)
         have NB207_328 := Aside0.mk ((by rw [hg]; exact Nat.ne_of_lt (blk_lt BK207.out) : gb207 ≠ gb328))
         have NB328_207 := Aside0.mk ((by rw [hg]; exact Nat.ne_of_gt (blk_lt BK207.out) : gb328 ≠ gb207))
         replace BK207 := Aside0.mk (blk_below BK207.out hb)
         have NB208_328 := Aside0.mk ((by rw [hg]; exact Nat.ne_of_lt (blk_lt BK208.out) : gb208 ≠ gb328))
         have NB328_208 := Aside0.mk ((by rw [hg]; exact Nat.ne_of_gt (blk_lt BK208.out) : gb328 ≠ gb208))
         replace BK208 := Aside0.mk (blk_below BK208.out hb)
         have NB238_328 := Aside0.mk ((by rw [hg]; exact Nat.ne_of_lt (blk_lt BK238.out) : gb238 ≠ gb328))
         have NB328_238 := Aside0.mk ((by rw [hg]; exact Nat.ne_of_gt (blk_lt BK238.out) : gb328 ≠ gb238))
         replace BK238 := Aside0.mk (blk_below BK238.out hb)
         have NB248_328 := Aside0.mk ((by rw [hg]; exact Nat.ne_of_lt (blk_lt BK248.out) : gb248 ≠ gb328))
         have NB328_248 := Aside0.mk ((by rw [hg]; exact Nat.ne_of_gt (blk_lt BK248.out) : gb328 ≠ gb248))
         replace BK248 := Aside0.mk (blk_below BK248.out hb)
         have NB258_328 := Aside0.mk ((by rw [hg]; exact Nat.ne_of_lt (blk_lt BK258.out) : gb258 ≠ gb328))
         have NB328_258 := Aside0.mk ((by rw [hg]; exact Nat.ne_of_gt (blk_lt BK258.out) : gb328 ≠ gb258))
         replace BK258 := Aside0.mk (blk_below BK258.out hb)
         have NB268_328 := Aside0.mk ((by rw [hg]; exact Nat.ne_of_lt (blk_lt BK268.out) : gb268 ≠ gb328))
         have NB328_268 := Aside0.mk ((by rw [hg]; exact Nat.ne_of_gt (blk_lt BK268.out) : gb328 ≠ gb268))
         replace BK268 := Aside0.mk (blk_below BK268.out hb)
         clear hb hbox hg
         refine hK.out _ _ ⟨(blk_cell BK207.out 0).trans rfl, (blk_cell BK207.out 1).trans rfl, (blk_cell BK207.out 2).trans rfl, (blk_cell BK207.out 3).trans rfl, (blk_cell BK207.out 4).trans rfl, (blk_cell BK208.out 0).trans rfl, (blk_cell BK208.out 1).trans rfl, (blk_cell BK208.out 2).trans rfl, (blk_cell BK208.out 3).trans rfl, (blk_cell BK208.out 4).trans rfl⟩ (fun hHeld => ?_)
         clear hK K
         refine norm_ (a' := ?_) ?_ ?_
         rotate_left
         ·show Act.put _ (some 13) _ = _
          simp only [Act.put, List.setIfInBounds_toArray, List.set_cons_zero, List.set_cons_succ, i64_w, i32_w]
          rfl
         refine one_ (i := 3) (N := some 78) #[true, true, true, true, false, true, false] rfl rfl (by kernel_rfl) (by decide) (fun K hK => ?_)
         refine goes_ Try.func13 (by kernel_rfl) rfl #[.agg #[.int .i64 a1_0, .int .i64 a1_1, .int .i64 a1_2, .slice A1_3 l1_3.length c1_3, .slice A1_4 l1_4.length c1_4]] (by rfl) rfl rfl (by (try simp only [List.map_toArray, List.map_cons, List.map_nil]); first | done | rfl) ?_
         with_reducible refine (laws_toPattern.calls k a1_0 a1_1 a1_2 _ _ l1_3 _ _ l1_4 t310 t311 t312 t313 t316 _ ?side1 ?side2 ?side3 ?side4 A43.out).mono ?_
         (case side1 => exact (Kd.C_below HR1_3.out HB.out))
         (case side2 => exact HC1_3.out)
         (case side3 => exact (Kd.C_below HR1_4.out HB.out))
         (case side4 => exact HC1_4.out)
         rintro e w132 ⟨v314, v317, rfl, ho0, ho1, hb⟩
         refine ⟨_, rfl, ?_⟩
         have HO315 := Aside0.mk (Kd.R_lower (Kd.R_new' (Kd.R_new' (Kd.R_new' (Kd.R_new' (Kd.R_new' (Kd.R_new' (Kd.R_new' (Kd.R_new' (Kd.R_new' (Kd.R_new' ho0 (Kd.R_lt HO234.out)) (Kd.R_lt HO237.out)) (Kd.R_lt HO244.out)) (Kd.R_lt HO247.out)) (Kd.R_lt HO254.out)) (Kd.R_lt HO257.out)) (Kd.R_lt HO264.out)) (Kd.R_lt HO267.out)) (Kd.R_lt HO306.out)) (Kd.R_lt HO309.out)) (below_size HB.out))
         have HO318 := Aside0.mk (Kd.R_lower (Kd.R_new' (Kd.R_new' (Kd.R_new' (Kd.R_new' (Kd.R_new' (Kd.R_new' (Kd.R_new' (Kd.R_new' (Kd.R_new' (Kd.R_new' ho1 (Kd.R_lt HO234.out)) (Kd.R_lt HO237.out)) (Kd.R_lt HO244.out)) (Kd.R_lt HO247.out)) (Kd.R_lt HO254.out)) (Kd.R_lt HO257.out)) (Kd.R_lt HO264.out)) (Kd.R_lt HO267.out)) (Kd.R_lt HO306.out)) (Kd.R_lt HO309.out)) (below_size HB.out))
         replace HO234 := Aside0.mk (Kd.R_mono (Kd.R_told (Kd.R_told (Kd.R_old HO234.out hb) (Kd.R_base ho0)) (Kd.R_base ho1)) (fun _ h_ => h_.1))
         replace HO237 := Aside0.mk (Kd.R_mono (Kd.R_told (Kd.R_told (Kd.R_old HO237.out hb) (Kd.R_base ho0)) (Kd.R_base ho1)) (fun _ h_ => h_.1))
         replace HO244 := Aside0.mk (Kd.R_mono (Kd.R_told (Kd.R_told (Kd.R_old HO244.out hb) (Kd.R_base ho0)) (Kd.R_base ho1)) (fun _ h_ => h_.1))
         replace HO247 := Aside0.mk (Kd.R_mono (Kd.R_told (Kd.R_told (Kd.R_old HO247.out hb) (Kd.R_base ho0)) (Kd.R_base ho1)) (fun _ h_ => h_.1))
         replace HO254 := Aside0.mk (Kd.R_mono (Kd.R_told (Kd.R_told (Kd.R_old HO254.out hb) (Kd.R_base ho0)) (Kd.R_base ho1)) (fun _ h_ => h_.1))
         replace HO257 := Aside0.mk (Kd.R_mono (Kd.R_told (Kd.R_told (Kd.R_old HO257.out hb) (Kd.R_base ho0)) (Kd.R_base ho1)) (fun _ h_ => h_.1))
         replace HO264 := Aside0.mk (Kd.R_mono (Kd.R_told (Kd.R_told (Kd.R_old HO264.out hb) (Kd.R_base ho0)) (Kd.R_base ho1)) (fun _ h_ => h_.1))
         replace HO267 := Aside0.mk (Kd.R_mono (Kd.R_told (Kd.R_told (Kd.R_old HO267.out hb) (Kd.R_base ho0)) (Kd.R_base ho1)) (fun _ h_ => h_.1))
         replace HO306 := Aside0.mk (Kd.R_mono (Kd.R_told (Kd.R_told (Kd.R_old HO306.out hb) (Kd.R_base ho0)) (Kd.R_base ho1)) (fun _ h_ => h_.1))
         replace HO309 := Aside0.mk (Kd.R_mono (Kd.R_told (Kd.R_told (Kd.R_old HO309.out hb) (Kd.R_base ho0)) (Kd.R_base ho1)) (fun _ h_ => h_.1))
         replace BK207 := Aside0.mk (blk_below BK207.out hb)
         replace BK208 := Aside0.mk (blk_below BK208.out hb)
         replace BK238 := Aside0.mk (blk_below BK238.out hb)
         replace BK248 := Aside0.mk (blk_below BK248.out hb)
         replace BK258 := Aside0.mk (blk_below BK258.out hb)
         replace BK268 := Aside0.mk (blk_below BK268.out hb)
         replace BK328 := Aside0.mk (blk_below BK328.out hb)
         replace HB := Aside0.mk (below_step HB.out hb)
         (try clear hb)
         (try clear hb2)
         (try clear hk)
         (try clear hi)
         (try clear ho0)
         (try clear ho1)
         obtain ⟨Ao133, co133, eo133⟩ := Kd.R_slice HO306.out
         (first | subst eo133 | (injection eo133 with f1_ f2_ f3_; have f4_ := f1_.symm; have f5_ := f3_.symm; clear f1_ f2_ f3_; subst f4_; subst f5_))
         obtain ⟨Ao134, co134, eo134⟩ := Kd.R_slice HO309.out
         (first | subst eo134 | (injection eo134 with f1_ f2_ f3_; have f4_ := f1_.symm; have f5_ := f3_.symm; clear f1_ f2_ f3_; subst f4_; subst f5_))
         obtain ⟨Ao135, co135, eo135⟩ := Kd.R_slice HO315.out
         (first | subst eo135 | (injection eo135 with f1_ f2_ f3_; have f4_ := f1_.symm; have f5_ := f3_.symm; clear f1_ f2_ f3_; subst f4_; subst f5_))
         obtain ⟨Ao136, co136, eo136⟩ := Kd.R_slice HO318.out
         (first | subst eo136 | (injection eo136 with f1_ f2_ f3_; have f4_ := f1_.symm; have f5_ := f3_.symm; clear f1_ f2_ f3_; subst f4_; subst f5_))
         refine hK.out _ _ ⟨(blk_cell BK207.out 0).trans rfl, (blk_cell BK207.out 1).trans rfl, (blk_cell BK207.out 2).trans rfl, (blk_cell BK207.out 3).trans rfl, (blk_cell BK207.out 4).trans rfl, (blk_cell BK208.out 0).trans rfl, (blk_cell BK208.out 1).trans rfl, (blk_cell BK208.out 2).trans rfl, (blk_cell BK208.out 3).trans rfl, (blk_cell BK208.out 4).trans rfl⟩ (fun hHeld => ?_)
         clear hK K
         refine norm_ (a' := ?_) ?_ ?_
         rotate_left
         ·show Act.put _ (some 78) _ = _
          simp only [Act.put, List.setIfInBounds_toArray, List.set_cons_zero, List.set_cons_succ, i64_w, i32_w]
          rfl
         refine one_ (i := 4) (N := some 79) #[true, true, true, true, true, true, false] rfl rfl (by kernel_rfl) (by decide) (fun K hK => ?_)
         refine goes_ Try.func31 (by kernel_rfl) rfl #[.agg #[.int .i64 t301, .int .i64 t302, .int .i64 t303, .slice Ao133 t304.length co133, .slice Ao134 t307.length co134], .agg #[.int .i64 t310, .int .i64 t311, .int .i64 t312, .slice Ao135 t313.length co135, .slice Ao136 t316.length co136]] (by rfl) rfl rfl (by (try simp only [List.map_toArray, List.map_cons, List.map_nil]); first | done | rfl) ?_
         with_reducible refine (impl_Both.calls k t301 t302 t303 _ _ t304 _ _ t307 t310 t311 t312 _ _ t313 _ _ t316 t319 t320 t321 t322 t325 _ ?side1 ?side2 ?side3 ?side4 ?side5 ?side6 ?side7 ?side8 A44.out).mono ?_
         (case side1 => exact (Kd.R_reads' HO306.out).2.2)
         (case side2 => exact (Kd.R_reads' HO306.out).2.1)
         (case side3 => exact (Kd.R_reads' HO309.out).2.2)
         (case side4 => exact (Kd.R_reads' HO309.out).2.1)
         (case side5 => exact (Kd.R_reads' HO315.out).2.2)
         (case side6 => exact (Kd.R_reads' HO315.out).2.1)
         (case side7 => exact (Kd.R_reads' HO318.out).2.2)
         (case side8 => exact (Kd.R_reads' HO318.out).2.1)
         rintro e w137 ⟨v323, v326, rfl, ho0, ho1, hb⟩
         refine ⟨_, rfl, ?_⟩
         have HO324 := Aside0.mk (Kd.R_lower (Kd.R_new' (Kd.R_new' (Kd.R_new' (Kd.R_new' (Kd.R_new' (Kd.R_new' (Kd.R_new' (Kd.R_new' (Kd.R_new' (Kd.R_new' (Kd.R_new' (Kd.R_new' ho0 (Kd.R_lt HO234.out)) (Kd.R_lt HO237.out)) (Kd.R_lt HO244.out)) (Kd.R_lt HO247.out)) (Kd.R_lt HO254.out)) (Kd.R_lt HO257.out)) (Kd.R_lt HO264.out)) (Kd.R_lt HO267.out)) (Kd.R_lt HO306.out)) (Kd.R_lt HO309.out)) (Kd.R_lt HO315.out)) (Kd.R_lt HO318.out)) (below_size HB.out))
         have HO327 := Aside0.mk (Kd.R_lower (Kd.R_new' (Kd.R_new' (Kd.R_new' (Kd.R_new' (Kd.R_new' (Kd.R_new' (Kd.R_new' (Kd.R_new' (Kd.R_new' (Kd.R_new' (Kd.R_new' (Kd.R_new' ho1 (Kd.R_lt HO234.out)) (Kd.R_lt HO237.out)) (Kd.R_lt HO244.out)) (Kd.R_lt HO247.out)) (Kd.R_lt HO254.out)) (Kd.R_lt HO257.out)) (Kd.R_lt HO264.out)) (Kd.R_lt HO267.out)) (Kd.R_lt HO306.out)) (Kd.R_lt HO309.out)) (Kd.R_lt HO315.out)) (Kd.R_lt HO318.out)) (below_size HB.out))
         replace HO234 := Aside0.mk (Kd.R_mono (Kd.R_told (Kd.R_told (Kd.R_old HO234.out hb) (Kd.R_base ho0)) (Kd.R_base ho1)) (fun _ h_ => h_.1))
         replace HO237 := Aside0.mk (Kd.R_mono (Kd.R_told (Kd.R_told (Kd.R_old HO237.out hb) (Kd.R_base ho0)) (Kd.R_base ho1)) (fun _ h_ => h_.1))
         replace HO244 := Aside0.mk (Kd.R_mono (Kd.R_told (Kd.R_told (Kd.R_old HO244.out hb) (Kd.R_base ho0)) (Kd.R_base ho1)) (fun _ h_ => h_.1))
         replace HO247 := Aside0.mk (Kd.R_mono (Kd.R_told (Kd.R_told (Kd.R_old HO247.out hb) (Kd.R_base ho0)) (Kd.R_base ho1)) (fun _ h_ => h_.1))
         replace HO254 := Aside0.mk (Kd.R_mono (Kd.R_told (Kd.R_told (Kd.R_old HO254.out hb) (Kd.R_base ho0)) (Kd.R_base ho1)) (fun _ h_ => h_.1))
         replace HO257 := Aside0.mk (Kd.R_mono (Kd.R_told (Kd.R_told (Kd.R_old HO257.out hb) (Kd.R_base ho0)) (Kd.R_base ho1)) (fun _ h_ => h_.1))
         replace HO264 := Aside0.mk (Kd.R_mono (Kd.R_told (Kd.R_told (Kd.R_old HO264.out hb) (Kd.R_base ho0)) (Kd.R_base ho1)) (fun _ h_ => h_.1))
         replace HO267 := Aside0.mk (Kd.R_mono (Kd.R_told (Kd.R_told (Kd.R_old HO267.out hb) (Kd.R_base ho0)) (Kd.R_base ho1)) (fun _ h_ => h_.1))
         replace HO306 := Aside0.mk (Kd.R_mono (Kd.R_told (Kd.R_told (Kd.R_old HO306.out hb) (Kd.R_base ho0)) (Kd.R_base ho1)) (fun _ h_ => h_.1))
         replace HO309 := Aside0.mk (Kd.R_mono (Kd.R_told (Kd.R_told (Kd.R_old HO309.out hb) (Kd.R_base ho0)) (Kd.R_base ho1)) (fun _ h_ => h_.1))
         replace HO315 := Aside0.mk (Kd.R_mono (Kd.R_told (Kd.R_told (Kd.R_old HO315.out hb) (Kd.R_base ho0)) (Kd.R_base ho1)) (fun _ h_ => h_.1))
         replace HO318 := Aside0.mk (Kd.R_mono (Kd.R_told (Kd.R_told (Kd.R_old HO318.out hb) (Kd.R_base ho0)) (Kd.R_base ho1)) (fun _ h_ => h_.1))
         replace BK207 := Aside0.mk (blk_below BK207.out hb)
         replace BK208 := Aside0.mk (blk_below BK208.out hb)
         replace BK238 := Aside0.mk (blk_below BK238.out hb)
         replace BK248 := Aside0.mk (blk_below BK248.out hb)
         replace BK258 := Aside0.mk (blk_below BK258.out hb)
         replace BK268 := Aside0.mk (blk_below BK268.out hb)
         replace BK328 := Aside0.mk (blk_below BK328.out hb)
         replace HB := Aside0.mk (below_step HB.out hb)
         (try clear hb)
         (try clear hb2)
         (try clear hk)
         (try clear hi)
         (try clear ho0)
         (try clear ho1)
         refine hK.out _ _ ⟨(blk_cell BK207.out 0).trans rfl, (blk_cell BK207.out 1).trans rfl, (blk_cell BK207.out 2).trans rfl, (blk_cell BK207.out 3).trans rfl, (blk_cell BK207.out 4).trans rfl, (blk_cell BK208.out 0).trans rfl, (blk_cell BK208.out 1).trans rfl, (blk_cell BK208.out 2).trans rfl, (blk_cell BK208.out 3).trans rfl, (blk_cell BK208.out 4).trans rfl⟩ (fun hHeld => ?_)
         clear hK K
         refine norm_ (a' := ?_) ?_ ?_
         rotate_left
         ·show Act.put _ (some 79) _ = _
          simp only [Act.put, List.setIfInBounds_toArray, List.set_cons_zero, List.set_cons_succ, i64_w, i32_w]
          rfl
         exact norm_ (by simp only [putAll, Act.put, List.setIfInBounds_toArray, List.set_cons_zero, List.set_cons_succ]) (hCont (.slice Ao133 t304.length co133, .slice Ao134 t307.length co134, .slice Ao135 t313.length co135, .slice Ao136 t316.length co136, v323, v326, gb328) _ ⟨hHeld, (Kd.R_mono HO234.out (fun _ => pmBothx8_4)), (Kd.R_mono HO237.out (fun _ => pmBothx8_4)), (Kd.R_mono HO244.out (fun _ => pmBothx8_4)), (Kd.R_mono HO247.out (fun _ => pmBothx8_4)), (Kd.R_mono HO254.out (fun _ => pmBothx8_4)), (Kd.R_mono HO257.out (fun _ => pmBothx8_4)), (Kd.R_mono HO264.out (fun _ => pmBothx8_4)), (Kd.R_mono HO267.out (fun _ => pmBothx8_4)), (Kd.R_mono HO306.out (fun _ => pmBothx8_5)), (Kd.R_mono HO309.out (fun _ => pmBothx8_5)), (Kd.R_mono HO315.out (fun _ => pmBothx8_6)), (Kd.R_mono HO318.out (fun _ => pmBothx8_6)), (Kd.R_mono HO324.out (fun _ => pmBothx8_7)), (Kd.R_mono HO327.out (fun _ => pmBothx8_7)), BK207.out, BK208.out, BK238.out, BK248.out, BK258.out, BK268.out, BK328.out, GW328.out, GE328.out, NB207_328.out, NB328_207.out, NB208_328.out, NB328_208.out, NB238_328.out, NB328_238.out, NB248_328.out, NB328_248.out, NB258_328.out, NB328_258.out, NB268_328.out, NB328_268.out, HB.out⟩)
       ·skip
        refine box_step ?hg (N := 13) ?hd (cs := #[.int .i64 0, .int .i64 0, .int .i64 0, .slice none 0 0, .slice none 0 0]) (t := 27) ?hr ?_; (case hd => rfl); (case hg => rfl); (case hr => first | (go_simp; done) | (go_simp; rfl))
        intro gb328 hg w130 hbox hb
        replace HO234 := Aside0.mk (Kd.R_below HO234.out hb)
        replace HO237 := Aside0.mk (Kd.R_below HO237.out hb)
        replace HO244 := Aside0.mk (Kd.R_below HO244.out hb)
        replace HO247 := Aside0.mk (Kd.R_below HO247.out hb)
        replace HO254 := Aside0.mk (Kd.R_below HO254.out hb)
        replace HO257 := Aside0.mk (Kd.R_below HO257.out hb)
        replace HO264 := Aside0.mk (Kd.R_below HO264.out hb)
        replace HO267 := Aside0.mk (Kd.R_below HO267.out hb)
        have BK328 := Aside0.mk (hbox)
        have GW328 := Aside0.mk ((by rw [hg]; exact (below_size HB.out) : w.heap.size ≤ gb328))
        have GE328 := Aside0.mk ((by rw [hg]; exact (below_size HB.out) : w.heap.size ≤ gb328))
        replace HB := Aside0.mk (below_step HB.out hb)
        have NB207_328 := Aside0.mk ((by rw [hg]; exact Nat.ne_of_lt (blk_lt BK207.out) : gb207 ≠ gb328))
        have NB328_207 := Aside0.mk ((by rw [hg]; exact Nat.ne_of_gt (blk_lt BK207.out) : gb328 ≠ gb207))
        replace BK207 := Aside0.mk (blk_below BK207.out hb)
        have NB208_328 := Aside0.mk ((by rw [hg]; exact Nat.ne_of_lt (blk_lt BK208.out) : gb208 ≠ gb328))
        have NB328_208 := Aside0.mk ((by rw [hg]; exact Nat.ne_of_gt (blk_lt BK208.out) : gb328 ≠ gb208))
        replace BK208 := Aside0.mk (blk_below BK208.out hb)
        have NB238_328 := Aside0.mk ((by rw [hg]; exact Nat.ne_of_lt (blk_lt BK238.out) : gb238 ≠ gb328))
        have NB328_238 := Aside0.mk ((by rw [hg]; exact Nat.ne_of_gt (blk_lt BK238.out) : gb328 ≠ gb238))
        replace BK238 := Aside0.mk (blk_below BK238.out hb)
        have NB248_328 := Aside0.mk ((by rw [hg]; exact Nat.ne_of_lt (blk_lt BK248.out) : gb248 ≠ gb328))
        have NB328_248 := Aside0.mk ((by rw [hg]; exact Nat.ne_of_gt (blk_lt BK248.out) : gb328 ≠ gb248))
        replace BK248 := Aside0.mk (blk_below BK248.out hb)
        have NB258_328 := Aside0.mk ((by rw [hg]; exact Nat.ne_of_lt (blk_lt BK258.out) : gb258 ≠ gb328))
        have NB328_258 := Aside0.mk ((by rw [hg]; exact Nat.ne_of_gt (blk_lt BK258.out) : gb328 ≠ gb258))
        replace BK258 := Aside0.mk (blk_below BK258.out hb)
        have NB268_328 := Aside0.mk ((by rw [hg]; exact Nat.ne_of_lt (blk_lt BK268.out) : gb268 ≠ gb328))
        have NB328_268 := Aside0.mk ((by rw [hg]; exact Nat.ne_of_gt (blk_lt BK268.out) : gb328 ≠ gb268))
        replace BK268 := Aside0.mk (blk_below BK268.out hb)
        clear hb hbox hg
        refine hK.out _ _ ⟨(blk_cell BK207.out 0).trans rfl, (blk_cell BK207.out 1).trans rfl, (blk_cell BK207.out 2).trans rfl, (blk_cell BK207.out 3).trans rfl, (blk_cell BK207.out 4).trans rfl, (blk_cell BK208.out 0).trans rfl, (blk_cell BK208.out 1).trans rfl, (blk_cell BK208.out 2).trans rfl, (blk_cell BK208.out 3).trans rfl, (blk_cell BK208.out 4).trans rfl⟩ (fun hHeld => ?_)
        clear hK K
        refine norm_ (a' := ?_) ?_ ?_
        rotate_left
        ·show Act.put _ (some 13) _ = _
         simp only [Act.put, List.setIfInBounds_toArray, List.set_cons_zero, List.set_cons_succ, i64_w, i32_w]
         rfl
        refine one_ (i := 1) (N := some 76) #[true, true, true, false, false, true, false] rfl rfl (by kernel_rfl) (by decide) (fun K hK => ?_)
        refine goes_ Try.func13 (by kernel_rfl) rfl #[.agg #[.int .i64 a0_0, .int .i64 a0_1, .int .i64 a0_2, .slice A0_3 l0_3.length c0_3, .slice A0_4 l0_4.length c0_4]] (by rfl) rfl rfl (by (try simp only [List.map_toArray, List.map_cons, List.map_nil]); first | done | rfl) ?_
        with_reducible refine (laws_toPattern.calls k a0_0 a0_1 a0_2 _ _ l0_3 _ _ l0_4 t301 t302 t303 t304 t307 _ ?side1 ?side2 ?side3 ?side4 A42.out).mono ?_
        (case side1 => exact (Kd.C_below HR0_3.out HB.out))
        (case side2 => exact HC0_3.out)
        (case side3 => exact (Kd.C_below HR0_4.out HB.out))
        (case side4 => exact HC0_4.out)
        rintro e w131 ⟨v305, v308, rfl, ho0, ho1, hb⟩
        refine ⟨_, rfl, ?_⟩
        have HO306 := Aside0.mk (Kd.R_lower (Kd.R_new' (Kd.R_new' (Kd.R_new' (Kd.R_new' (Kd.R_new' (Kd.R_new' (Kd.R_new' (Kd.R_new' ho0 (Kd.R_lt HO234.out)) (Kd.R_lt HO237.out)) (Kd.R_lt HO244.out)) (Kd.R_lt HO247.out)) (Kd.R_lt HO254.out)) (Kd.R_lt HO257.out)) (Kd.R_lt HO264.out)) (Kd.R_lt HO267.out)) (below_size HB.out))
        have HO309 := Aside0.mk (Kd.R_lower (Kd.R_new' (Kd.R_new' (Kd.R_new' (Kd.R_new' (Kd.R_new' (Kd.R_new' (Kd.R_new' (Kd.R_new' ho1 (Kd.R_lt HO234.out)) (Kd.R_lt HO237.out)) (Kd.R_lt HO244.out)) (Kd.R_lt HO247.out)) (Kd.R_lt HO254.out)) (Kd.R_lt HO257.out)) (Kd.R_lt HO264.out)) (Kd.R_lt HO267.out)) (below_size HB.out))
        replace HO234 := Aside0.mk (Kd.R_mono (Kd.R_told (Kd.R_told (Kd.R_old HO234.out hb) (Kd.R_base ho0)) (Kd.R_base ho1)) (fun _ h_ => h_.1))
        replace HO237 := Aside0.mk (Kd.R_mono (Kd.R_told (Kd.R_told (Kd.R_old HO237.out hb) (Kd.R_base ho0)) (Kd.R_base ho1)) (fun _ h_ => h_.1))
        replace HO244 := Aside0.mk (Kd.R_mono (Kd.R_told (Kd.R_told (Kd.R_old HO244.out hb) (Kd.R_base ho0)) (Kd.R_base ho1)) (fun _ h_ => h_.1))
        replace HO247 := Aside0.mk (Kd.R_mono (Kd.R_told (Kd.R_told (Kd.R_old HO247.out hb) (Kd.R_base ho0)) (Kd.R_base ho1)) (fun _ h_ => h_.1))
        replace HO254 := Aside0.mk (Kd.R_mono (Kd.R_told (Kd.R_told (Kd.R_old HO254.out hb) (Kd.R_base ho0)) (Kd.R_base ho1)) (fun _ h_ => h_.1))
        replace HO257 := Aside0.mk (Kd.R_mono (Kd.R_told (Kd.R_told (Kd.R_old HO257.out hb) (Kd.R_base ho0)) (Kd.R_base ho1)) (fun _ h_ => h_.1))
        replace HO264 := Aside0.mk (Kd.R_mono (Kd.R_told (Kd.R_told (Kd.R_old HO264.out hb) (Kd.R_base ho0)) (Kd.R_base ho1)) (fun _ h_ => h_.1))
        replace HO267 := Aside0.mk (Kd.R_mono (Kd.R_told (Kd.R_told (Kd.R_old HO267.out hb) (Kd.R_base ho0)) (Kd.R_base ho1)) (fun _ h_ => h_.1))
        replace BK207 := Aside0.mk (blk_below BK207.out hb)
        replace BK208 := Aside0.mk (blk_below BK208.out hb)
        replace BK238 := Aside0.mk (blk_below BK238.out hb)
        replace BK248 := Aside0.mk (blk_below BK248.out hb)
        replace BK258 := Aside0.mk (blk_below BK258.out hb)
        replace BK268 := Aside0.mk (blk_below BK268.out hb)
        replace BK328 := Aside0.mk (blk_below BK328.out hb)
        replace HB := Aside0.mk (below_step HB.out hb)
        (try clear hb)
        (try clear hb2)
        (try clear hk)
        (try clear hi)
        (try clear ho0)
        (try clear ho1)
        refine hK.out _ _ ⟨(blk_cell BK207.out 0).trans rfl, (blk_cell BK207.out 1).trans rfl, (blk_cell BK207.out 2).trans rfl, (blk_cell BK207.out 3).trans rfl, (blk_cell BK207.out 4).trans rfl, (blk_cell BK208.out 0).trans rfl, (blk_cell BK208.out 1).trans rfl, (blk_cell BK208.out 2).trans rfl, (blk_cell BK208.out 3).trans rfl, (blk_cell BK208.out 4).trans rfl⟩ (fun hHeld => ?_)
        clear hK K
        refine norm_ (a' := ?_) ?_ ?_
        rotate_left
        ·show Act.put _ (some 76) _ = _
         simp only [Act.put, List.setIfInBounds_toArray, List.set_cons_zero, List.set_cons_succ, i64_w, i32_w]
         rfl
        refine one_ (i := 3) (N := some 78) #[true, true, true, true, false, true, false] rfl rfl (by kernel_rfl) (by decide) (fun K hK => ?_)
        refine goes_ Try.func13 (by kernel_rfl) rfl #[.agg #[.int .i64 a1_0, .int .i64 a1_1, .int .i64 a1_2, .slice A1_3 l1_3.length c1_3, .slice A1_4 l1_4.length c1_4]] (by rfl) rfl rfl (by (try simp only [List.map_toArray, List.map_cons, List.map_nil]); first | done | rfl) ?_
        with_reducible refine (laws_toPattern.calls k a1_0 a1_1 a1_2 _ _ l1_3 _ _ l1_4 t310 t311 t312 t313 t316 _ ?side1 ?side2 ?side3 ?side4 A43.out).mono ?_
        (case side1 => exact (Kd.C_below HR1_3.out HB.out))
        (case side2 => exact HC1_3.out)
        (case side3 => exact (Kd.C_below HR1_4.out HB.out))
        (case side4 => exact HC1_4.out)
        rintro e w132 ⟨v314, v317, rfl, ho0, ho1, hb⟩
        refine ⟨_, rfl, ?_⟩
        have HO315 := Aside0.mk (Kd.R_lower (Kd.R_new' (Kd.R_new' (Kd.R_new' (Kd.R_new' (Kd.R_new' (Kd.R_new' (Kd.R_new' (Kd.R_new' (Kd.R_new' (Kd.R_new' ho0 (Kd.R_lt HO234.out)) (Kd.R_lt HO237.out)) (Kd.R_lt HO244.out)) (Kd.R_lt HO247.out)) (Kd.R_lt HO254.out)) (Kd.R_lt HO257.out)) (Kd.R_lt HO264.out)) (Kd.R_lt HO267.out)) (Kd.R_lt HO306.out)) (Kd.R_lt HO309.out)) (below_size HB.out))
        have HO318 := Aside0.mk (Kd.R_lower (Kd.R_new' (Kd.R_new' (Kd.R_new' (Kd.R_new' (Kd.R_new' (Kd.R_new' (Kd.R_new' (Kd.R_new' (Kd.R_new' (Kd.R_new' ho1 (Kd.R_lt HO234.out)) (Kd.R_lt HO237.out)) (Kd.R_lt HO244.out)) (Kd.R_lt HO247.out)) (Kd.R_lt HO254.out)) (Kd.R_lt HO257.out)) (Kd.R_lt HO264.out)) (Kd.R_lt HO267.out)) (Kd.R_lt HO306.out)) (Kd.R_lt HO309.out)) (below_size HB.out))
        replace HO234 := Aside0.mk (Kd.R_mono (Kd.R_told (Kd.R_told (Kd.R_old HO234.out hb) (Kd.R_base ho0)) (Kd.R_base ho1)) (fun _ h_ => h_.1))
        replace HO237 := Aside0.mk (Kd.R_mono (Kd.R_told (Kd.R_told (Kd.R_old HO237.out hb) (Kd.R_base ho0)) (Kd.R_base ho1)) (fun _ h_ => h_.1))
        replace HO244 := Aside0.mk (Kd.R_mono (Kd.R_told (Kd.R_told (Kd.R_old HO244.out hb) (Kd.R_base ho0)) (Kd.R_base ho1)) (fun _ h_ => h_.1))
        replace HO247 := Aside0.mk (Kd.R_mono (Kd.R_told (Kd.R_told (Kd.R_old HO247.out hb) (Kd.R_base ho0)) (Kd.R_base ho1)) (fun _ h_ => h_.1))
        replace HO254 := Aside0.mk (Kd.R_mono (Kd.R_told (Kd.R_told (Kd.R_old HO254.out hb) (Kd.R_base ho0)) (Kd.R_base ho1)) (fun _ h_ => h_.1))
        replace HO257 := Aside0.mk (Kd.R_mono (Kd.R_told (Kd.R_told (Kd.R_old HO257.out hb) (Kd.R_base ho0)) (Kd.R_base ho1)) (fun _ h_ => h_.1))
        replace HO264 := Aside0.mk (Kd.R_mono (Kd.R_told (Kd.R_told (Kd.R_old HO264.out hb) (Kd.R_base ho0)) (Kd.R_base ho1)) (fun _ h_ => h_.1))
        replace HO267 := Aside0.mk (Kd.R_mono (Kd.R_told (Kd.R_told (Kd.R_old HO267.out hb) (Kd.R_base ho0)) (Kd.R_base ho1)) (fun _ h_ => h_.1))
        replace HO306 := Aside0.mk (Kd.R_mono (Kd.R_told (Kd.R_told (Kd.R_old HO306.out hb) (Kd.R_base ho0)) (Kd.R_base ho1)) (fun _ h_ => h_.1))
        replace HO309 := Aside0.mk (Kd.R_mono (Kd.R_told (Kd.R_told (Kd.R_old HO309.out hb) (Kd.R_base ho0)) (Kd.R_base ho1)) (fun _ h_ => h_.1))
        replace BK207 := Aside0.mk (blk_below BK207.out hb)
        replace BK208 := Aside0.mk (blk_below BK208.out hb)
        replace BK238 := Aside0.mk (blk_below BK238.out hb)
        replace BK248 := Aside0.mk (blk_below BK248.out hb)
        replace BK258 := Aside0.mk (blk_below BK258.out hb)
        replace BK268 := Aside0.mk (blk_below BK268.out hb)
        replace BK328 := Aside0.mk (blk_below BK328.out hb)
        replace HB := Aside0.mk (below_step HB.out hb)
        (try clear hb)
        (try clear hb2)
        (try clear hk)
        (try clear hi)
        (try clear ho0)
        (try clear ho1)
        obtain ⟨Ao133, co133, eo133⟩ := Kd.R_slice HO306.out
        (first | subst eo133 | (injection eo133 with f1_ f2_ f3_; have f4_ := f1_.symm; have f5_ := f3_.symm; clear f1_ f2_ f3_; subst f4_; subst f5_))
        obtain ⟨Ao134, co134, eo134⟩ := Kd.R_slice HO309.out
        (first | subst eo134 | (injection eo134 with f1_ f2_ f3_; have f4_ := f1_.symm; have f5_ := f3_.symm; clear f1_ f2_ f3_; subst f4_; subst f5_))
        obtain ⟨Ao135, co135, eo135⟩ := Kd.R_slice HO315.out
        (first | subst eo135 | (injection eo135 with f1_ f2_ f3_; have f4_ := f1_.symm; have f5_ := f3_.symm; clear f1_ f2_ f3_; subst f4_; subst f5_))
        obtain ⟨Ao136, co136, eo136⟩ := Kd.R_slice HO318.out
        (first | subst eo136 | (injection eo136 with f1_ f2_ f3_; have f4_ := f1_.symm; have f5_ := f3_.symm; clear f1_ f2_ f3_; subst f4_; subst f5_))
        refine hK.out _ _ ⟨(blk_cell BK207.out 0).trans rfl, (blk_cell BK207.out 1).trans rfl, (blk_cell BK207.out 2).trans rfl, (blk_cell BK207.out 3).trans rfl, (blk_cell BK207.out 4).trans rfl, (blk_cell BK208.out 0).trans rfl, (blk_cell BK208.out 1).trans rfl, (blk_cell BK208.out 2).trans rfl, (blk_cell BK208.out 3).trans rfl, (blk_cell BK208.out 4).trans rfl⟩ (fun hHeld => ?_)
        clear hK K
        refine norm_ (a' := ?_) ?_ ?_
        rotate_left
        ·show Act.put _ (some 78) _ = _
         simp only [Act.put, List.setIfInBounds_toArray, List.set_cons_zero, List.set_cons_succ, i64_w, i32_w]
         rfl
        refine one_ (i := 4) (N := some 79) #[true, true, true, true, true, true, false] rfl rfl (by kernel_rfl) (by decide) (fun K hK => ?_)
        refine goes_ Try.func31 (by kernel_rfl) rfl #[.agg #[.int .i64 t301, .int .i64 t302, .int .i64 t303, .slice Ao133 t304.length co133, .slice Ao134 t307.length co134], .agg #[.int .i64 t310, .int .i64 t311, .int .i64 t312, .slice Ao135 t313.length co135, .slice Ao136 t316.length co136]] (by rfl) rfl rfl (by (try simp only [List.map_toArray, List.map_cons, List.map_nil]); first | done | rfl) ?_
        with_reducible refine (impl_Both.calls k t301 t302 t303 _ _ t304 _ _ t307 t310 t311 t312 _ _ t313 _ _ t316 t319 t320 t321 t322 t325 _ ?side1 ?side2 ?side3 ?side4 ?side5 ?side6 ?side7 ?side8 A44.out).mono ?_
        (case side1 => exact (Kd.R_reads' HO306.out).2.2)
        (case side2 => exact (Kd.R_reads' HO306.out).2.1)
        (case side3 => exact (Kd.R_reads' HO309.out).2.2)
        (case side4 => exact (Kd.R_reads' HO309.out).2.1)
        (case side5 => exact (Kd.R_reads' HO315.out).2.2)
        (case side6 => exact (Kd.R_reads' HO315.out).2.1)
        (case side7 => exact (Kd.R_reads' HO318.out).2.2)
        (case side8 => exact (Kd.R_reads' HO318.out).2.1)
        rintro e w137 ⟨v323, v326, rfl, ho0, ho1, hb⟩
        refine ⟨_, rfl, ?_⟩
        have HO324 := Aside0.mk (Kd.R_lower (Kd.R_new' (Kd.R_new' (Kd.R_new' (Kd.R_new' (Kd.R_new' (Kd.R_new' (Kd.R_new' (Kd.R_new' (Kd.R_new' (Kd.R_new' (Kd.R_new' (Kd.R_new' ho0 (Kd.R_lt HO234.out)) (Kd.R_lt HO237.out)) (Kd.R_lt HO244.out)) (Kd.R_lt HO247.out)) (Kd.R_lt HO254.out)) (Kd.R_lt HO257.out)) (Kd.R_lt HO264.out)) (Kd.R_lt HO267.out)) (Kd.R_lt HO306.out)) (Kd.R_lt HO309.out)) (Kd.R_lt HO315.out)) (Kd.R_lt HO318.out)) (below_size HB.out))
        have HO327 := Aside0.mk (Kd.R_lower (Kd.R_new' (Kd.R_new' (Kd.R_new' (Kd.R_new' (Kd.R_new' (Kd.R_new' (Kd.R_new' (Kd.R_new' (Kd.R_new' (Kd.R_new' (Kd.R_new' (Kd.R_new' ho1 (Kd.R_lt HO234.out)) (Kd.R_lt HO237.out)) (Kd.R_lt HO244.out)) (Kd.R_lt HO247.out)) (Kd.R_lt HO254.out)) (Kd.R_lt HO257.out)) (Kd.R_lt HO264.out)) (Kd.R_lt HO267.out)) (Kd.R_lt HO306.out)) (Kd.R_lt HO309.out)) (Kd.R_lt HO315.out)) (Kd.R_lt HO318.out)) (below_size HB.out))
        replace HO234 := Aside0.mk (Kd.R_mono (Kd.R_told (Kd.R_told (Kd.R_old HO234.out hb) (Kd.R_base ho0)) (Kd.R_base ho1)) (fun _ h_ => h_.1))
        replace HO237 := Aside0.mk (Kd.R_mono (Kd.R_told (Kd.R_told (Kd.R_old HO237.out hb) (Kd.R_base ho0)) (Kd.R_base ho1)) (fun _ h_ => h_.1))
        replace HO244 := Aside0.mk (Kd.R_mono (Kd.R_told (Kd.R_told (Kd.R_old HO244.out hb) (Kd.R_base ho0)) (Kd.R_base ho1)) (fun _ h_ => h_.1))
        replace HO247 := Aside0.mk (Kd.R_mono (Kd.R_told (Kd.R_told (Kd.R_old HO247.out hb) (Kd.R_base ho0)) (Kd.R_base ho1)) (fun _ h_ => h_.1))
        replace HO254 := Aside0.mk (Kd.R_mono (Kd.R_told (Kd.R_told (Kd.R_old HO254.out hb) (Kd.R_base ho0)) (Kd.R_base ho1)) (fun _ h_ => h_.1))
        replace HO257 := Aside0.mk (Kd.R_mono (Kd.R_told (Kd.R_told (Kd.R_old HO257.out hb) (Kd.R_base ho0)) (Kd.R_base ho1)) (fun _ h_ => h_.1))
        replace HO264 := Aside0.mk (Kd.R_mono (Kd.R_told (Kd.R_told (Kd.R_old HO264.out hb) (Kd.R_base ho0)) (Kd.R_base ho1)) (fun _ h_ => h_.1))
        replace HO267 := Aside0.mk (Kd.R_mono (Kd.R_told (Kd.R_told (Kd.R_old HO267.out hb) (Kd.R_base ho0)) (Kd.R_base ho1)) (fun _ h_ => h_.1))
        replace HO306 := Aside0.mk (Kd.R_mono (Kd.R_told (Kd.R_told (Kd.R_old HO306.out hb) (Kd.R_base ho0)) (Kd.R_base ho1)) (fun _ h_ => h_.1))
        replace HO309 := Aside0.mk (Kd.R_mono (Kd.R_told (Kd.R_told (Kd.R_old HO309.out hb) (Kd.R_base ho0)) (Kd.R_base ho1)) (fun _ h_ => h_.1))
        replace HO315 := Aside0.mk (Kd.R_mono (Kd.R_told (Kd.R_told (Kd.R_old HO315.out hb) (Kd.R_base ho0)) (Kd.R_base ho1)) (fun _ h_ => h_.1))
        replace HO318 := Aside0.mk (Kd.R_mono (Kd.R_told (Kd.R_told (Kd.R_old HO318.out hb) (Kd.R_base ho0)) (Kd.R_base ho1)) (fun _ h_ => h_.1))
        replace BK207 := Aside0.mk (blk_below BK207.out hb)
        replace BK208 := Aside0.mk (blk_below BK208.out hb)
        replace BK238 := Aside0.mk (blk_below BK238.out hb)
        replace BK248 := Aside0.mk (blk_below BK248.out hb)
        replace BK258 := Aside0.mk (blk_below BK258.out hb)
        replace BK268 := Aside0.mk (blk_below BK268.out hb)
        replace BK328 := Aside0.mk (blk_below BK328.out hb)
        replace HB := Aside0.mk (below_step HB.out hb)
        (try clear hb)
        (try clear hb2)
        (try clear hk)
        (try clear hi)
        (try clear ho0)
        (try clear ho1)
        refine hK.out _ _ ⟨(blk_cell BK207.out 0).trans rfl, (blk_cell BK207.out 1).trans rfl, (blk_cell BK207.out 2).trans rfl, (blk_cell BK207.out 3).trans rfl, (blk_cell BK207.out 4).trans rfl, (blk_cell BK208.out 0).trans rfl, (blk_cell BK208.out 1).trans rfl, (blk_cell BK208.out 2).trans rfl, (blk_cell BK208.out 3).trans rfl, (blk_cell BK208.out 4).trans rfl⟩ (fun hHeld => ?_)
        clear hK K
        refine norm_ (a' := ?_) ?_ ?_
        rotate_left
        ·show Act.put _ (some 79) _ = _
         simp only [Act.put, List.setIfInBounds_toArray, List.set_cons_zero, List.set_cons_succ, i64_w, i32_w]
         rfl
        exact norm_ (by simp only [putAll, Act.put, List.setIfInBounds_toArray, List.set_cons_zero, List.set_cons_succ]) (hCont (.slice Ao133 t304.length co133, .slice Ao134 t307.length co134, .slice Ao135 t313.length co135, .slice Ao136 t316.length co136, v323, v326, gb328) _ ⟨hHeld, (Kd.R_mono HO234.out (fun _ => pmBothx8_4)), (Kd.R_mono HO237.out (fun _ => pmBothx8_4)), (Kd.R_mono HO244.out (fun _ => pmBothx8_4)), (Kd.R_mono HO247.out (fun _ => pmBothx8_4)), (Kd.R_mono HO254.out (fun _ => pmBothx8_4)), (Kd.R_mono HO257.out (fun _ => pmBothx8_4)), (Kd.R_mono HO264.out (fun _ => pmBothx8_4)), (Kd.R_mono HO267.out (fun _ => pmBothx8_4)), (Kd.R_mono HO306.out (fun _ => pmBothx8_5)), (Kd.R_mono HO309.out (fun _ => pmBothx8_5)), (Kd.R_mono HO315.out (fun _ => pmBothx8_6)), (Kd.R_mono HO318.out (fun _ => pmBothx8_6)), (Kd.R_mono HO324.out (fun _ => pmBothx8_7)), (Kd.R_mono HO327.out (fun _ => pmBothx8_7)), BK207.out, BK208.out, BK238.out, BK248.out, BK258.out, BK268.out, BK328.out, GW328.out, GE328.out, NB207_328.out, NB328_207.out, NB208_328.out, NB328_208.out, NB238_328.out, NB328_238.out, NB248_328.out, NB328_248.out, NB258_328.out, NB328_258.out, NB268_328.out, NB328_268.out, HB.out⟩)
      rintro ⟨v305, v308, v314, v317, v323, v326, gb328⟩ w138 ⟨hS_, h0_, h1_, h2_, h3_, h4_, h5_, h6_, h7_, h8_, h9_, h10_, h11_, h12_, h13_, h14_, h15_, h16_, h17_, h18_, h19_, h20_, h21_, h22_, h23_, h24_, h25_, h26_, h27_, h28_, h29_, h30_, h31_, h32_, h33_, h34_, h35_⟩
      have n0_ : Aside0 (Kd.R (Kd.int .i64) 3 w138 w.heap.size (fun k_ => Nb_ k_ Ao72 t235 co72 ∧ Nb_ k_ Ao82 t242 co82 ∧ Nb_ k_ Ao83 t245 co83 ∧ Nb_ k_ Ao93 t252 co93 ∧ Nb_ k_ Ao94 t255 co94 ∧ Nb_ k_ Ao104 t262 co104 ∧ Nb_ k_ Ao105 t265 co105 ∧ Nv_ k_ v305 ∧ Nv_ k_ v308 ∧ Nv_ k_ v314 ∧ Nv_ k_ v317 ∧ Nv_ k_ v323 ∧ Nv_ k_ v326) (.slice Ao70 t232.length co70) t232) := ⟨h0_⟩
      have n1_ : Aside0 (Kd.R (Kd.int .i64) 3 w138 w.heap.size (fun k_ => Nb_ k_ Ao70 t232 co70 ∧ Nb_ k_ Ao82 t242 co82 ∧ Nb_ k_ Ao83 t245 co83 ∧ Nb_ k_ Ao93 t252 co93 ∧ Nb_ k_ Ao94 t255 co94 ∧ Nb_ k_ Ao104 t262 co104 ∧ Nb_ k_ Ao105 t265 co105 ∧ Nv_ k_ v305 ∧ Nv_ k_ v308 ∧ Nv_ k_ v314 ∧ Nv_ k_ v317 ∧ Nv_ k_ v323 ∧ Nv_ k_ v326) (.slice Ao72 t235.length co72) t235) := ⟨h1_⟩
      have n2_ : Aside0 (Kd.R (Kd.int .i64) 3 w138 w.heap.size (fun k_ => Nb_ k_ Ao70 t232 co70 ∧ Nb_ k_ Ao72 t235 co72 ∧ Nb_ k_ Ao83 t245 co83 ∧ Nb_ k_ Ao93 t252 co93 ∧ Nb_ k_ Ao94 t255 co94 ∧ Nb_ k_ Ao104 t262 co104 ∧ Nb_ k_ Ao105 t265 co105 ∧ Nv_ k_ v305 ∧ Nv_ k_ v308 ∧ Nv_ k_ v314 ∧ Nv_ k_ v317 ∧ Nv_ k_ v323 ∧ Nv_ k_ v326) (.slice Ao82 t242.length co82) t291) := ⟨h2_⟩
      have n3_ : Aside0 (Kd.R (Kd.int .i64) 3 w138 w.heap.size (fun k_ => Nb_ k_ Ao70 t232 co70 ∧ Nb_ k_ Ao72 t235 co72 ∧ Nb_ k_ Ao82 t242 co82 ∧ Nb_ k_ Ao93 t252 co93 ∧ Nb_ k_ Ao94 t255 co94 ∧ Nb_ k_ Ao104 t262 co104 ∧ Nb_ k_ Ao105 t265 co105 ∧ Nv_ k_ v305 ∧ Nv_ k_ v308 ∧ Nv_ k_ v314 ∧ Nv_ k_ v317 ∧ Nv_ k_ v323 ∧ Nv_ k_ v326) (.slice Ao83 t245.length co83) t292) := ⟨h3_⟩
      have n4_ : Aside0 (Kd.R (Kd.int .i64) 3 w138 w.heap.size (fun k_ => Nb_ k_ Ao70 t232 co70 ∧ Nb_ k_ Ao72 t235 co72 ∧ Nb_ k_ Ao82 t242 co82 ∧ Nb_ k_ Ao83 t245 co83 ∧ Nb_ k_ Ao94 t255 co94 ∧ Nb_ k_ Ao104 t262 co104 ∧ Nb_ k_ Ao105 t265 co105 ∧ Nv_ k_ v305 ∧ Nv_ k_ v308 ∧ Nv_ k_ v314 ∧ Nv_ k_ v317 ∧ Nv_ k_ v323 ∧ Nv_ k_ v326) (.slice Ao93 t252.length co93) t294) := ⟨h4_⟩
      have n5_ : Aside0 (Kd.R (Kd.int .i64) 3 w138 w.heap.size (fun k_ => Nb_ k_ Ao70 t232 co70 ∧ Nb_ k_ Ao72 t235 co72 ∧ Nb_ k_ Ao82 t242 co82 ∧ Nb_ k_ Ao83 t245 co83 ∧ Nb_ k_ Ao93 t252 co93 ∧ Nb_ k_ Ao104 t262 co104 ∧ Nb_ k_ Ao105 t265 co105 ∧ Nv_ k_ v305 ∧ Nv_ k_ v308 ∧ Nv_ k_ v314 ∧ Nv_ k_ v317 ∧ Nv_ k_ v323 ∧ Nv_ k_ v326) (.slice Ao94 t255.length co94) t295) := ⟨h5_⟩
      have n6_ : Aside0 (Kd.R (Kd.int .i64) 3 w138 w.heap.size (fun k_ => Nb_ k_ Ao70 t232 co70 ∧ Nb_ k_ Ao72 t235 co72 ∧ Nb_ k_ Ao82 t242 co82 ∧ Nb_ k_ Ao83 t245 co83 ∧ Nb_ k_ Ao93 t252 co93 ∧ Nb_ k_ Ao94 t255 co94 ∧ Nb_ k_ Ao105 t265 co105 ∧ Nv_ k_ v305 ∧ Nv_ k_ v308 ∧ Nv_ k_ v314 ∧ Nv_ k_ v317 ∧ Nv_ k_ v323 ∧ Nv_ k_ v326) (.slice Ao104 t262.length co104) t298) := ⟨h6_⟩
      have n7_ : Aside0 (Kd.R (Kd.int .i64) 3 w138 w.heap.size (fun k_ => Nb_ k_ Ao70 t232 co70 ∧ Nb_ k_ Ao72 t235 co72 ∧ Nb_ k_ Ao82 t242 co82 ∧ Nb_ k_ Ao83 t245 co83 ∧ Nb_ k_ Ao93 t252 co93 ∧ Nb_ k_ Ao94 t255 co94 ∧ Nb_ k_ Ao104 t262 co104 ∧ Nv_ k_ v305 ∧ Nv_ k_ v308 ∧ Nv_ k_ v314 ∧ Nv_ k_ v317 ∧ Nv_ k_ v323 ∧ Nv_ k_ v326) (.slice Ao105 t265.length co105) t299) := ⟨h7_⟩
      have n8_ : Aside0 (Kd.R (Kd.int .i64) 3 w138 w.heap.size (fun k_ => Nb_ k_ Ao70 t232 co70 ∧ Nb_ k_ Ao72 t235 co72 ∧ Nb_ k_ Ao82 t242 co82 ∧ Nb_ k_ Ao83 t245 co83 ∧ Nb_ k_ Ao93 t252 co93 ∧ Nb_ k_ Ao94 t255 co94 ∧ Nb_ k_ Ao104 t262 co104 ∧ Nb_ k_ Ao105 t265 co105 ∧ Nv_ k_ v308 ∧ Nv_ k_ v314 ∧ Nv_ k_ v317 ∧ Nv_ k_ v323 ∧ Nv_ k_ v326) v305 t304) := ⟨h8_⟩
      have n9_ : Aside0 (Kd.R (Kd.int .i64) 3 w138 w.heap.size (fun k_ => Nb_ k_ Ao70 t232 co70 ∧ Nb_ k_ Ao72 t235 co72 ∧ Nb_ k_ Ao82 t242 co82 ∧ Nb_ k_ Ao83 t245 co83 ∧ Nb_ k_ Ao93 t252 co93 ∧ Nb_ k_ Ao94 t255 co94 ∧ Nb_ k_ Ao104 t262 co104 ∧ Nb_ k_ Ao105 t265 co105 ∧ Nv_ k_ v305 ∧ Nv_ k_ v314 ∧ Nv_ k_ v317 ∧ Nv_ k_ v323 ∧ Nv_ k_ v326) v308 t307) := ⟨h9_⟩
      have n10_ : Aside0 (Kd.R (Kd.int .i64) 3 w138 w.heap.size (fun k_ => Nb_ k_ Ao70 t232 co70 ∧ Nb_ k_ Ao72 t235 co72 ∧ Nb_ k_ Ao82 t242 co82 ∧ Nb_ k_ Ao83 t245 co83 ∧ Nb_ k_ Ao93 t252 co93 ∧ Nb_ k_ Ao94 t255 co94 ∧ Nb_ k_ Ao104 t262 co104 ∧ Nb_ k_ Ao105 t265 co105 ∧ Nv_ k_ v305 ∧ Nv_ k_ v308 ∧ Nv_ k_ v317 ∧ Nv_ k_ v323 ∧ Nv_ k_ v326) v314 t313) := ⟨h10_⟩
      have n11_ : Aside0 (Kd.R (Kd.int .i64) 3 w138 w.heap.size (fun k_ => Nb_ k_ Ao70 t232 co70 ∧ Nb_ k_ Ao72 t235 co72 ∧ Nb_ k_ Ao82 t242 co82 ∧ Nb_ k_ Ao83 t245 co83 ∧ Nb_ k_ Ao93 t252 co93 ∧ Nb_ k_ Ao94 t255 co94 ∧ Nb_ k_ Ao104 t262 co104 ∧ Nb_ k_ Ao105 t265 co105 ∧ Nv_ k_ v305 ∧ Nv_ k_ v308 ∧ Nv_ k_ v314 ∧ Nv_ k_ v323 ∧ Nv_ k_ v326) v317 t316) := ⟨h11_⟩
      have n12_ : Aside0 (Kd.R (Kd.int .i64) 3 w138 w.heap.size (fun k_ => Nb_ k_ Ao70 t232 co70 ∧ Nb_ k_ Ao72 t235 co72 ∧ Nb_ k_ Ao82 t242 co82 ∧ Nb_ k_ Ao83 t245 co83 ∧ Nb_ k_ Ao93 t252 co93 ∧ Nb_ k_ Ao94 t255 co94 ∧ Nb_ k_ Ao104 t262 co104 ∧ Nb_ k_ Ao105 t265 co105 ∧ Nv_ k_ v305 ∧ Nv_ k_ v308 ∧ Nv_ k_ v314 ∧ Nv_ k_ v317 ∧ Nv_ k_ v326) v323 t322) := ⟨h12_⟩
      have n13_ : Aside0 (Kd.R (Kd.int .i64) 3 w138 w.heap.size (fun k_ => Nb_ k_ Ao70 t232 co70 ∧ Nb_ k_ Ao72 t235 co72 ∧ Nb_ k_ Ao82 t242 co82 ∧ Nb_ k_ Ao83 t245 co83 ∧ Nb_ k_ Ao93 t252 co93 ∧ Nb_ k_ Ao94 t255 co94 ∧ Nb_ k_ Ao104 t262 co104 ∧ Nb_ k_ Ao105 t265 co105 ∧ Nv_ k_ v305 ∧ Nv_ k_ v308 ∧ Nv_ k_ v314 ∧ Nv_ k_ v317 ∧ Nv_ k_ v323) v326 t325) := ⟨h13_⟩
      have n14_ : Aside0 (w138.heap[gb207]? = some (.cells #[.int .i64 a0_0, .int .i64 a0_1, .int .i64 a0_2, .slice A0_3 l0_3.length c0_3, .slice A0_4 l0_4.length c0_4] 24 (0, 0))) := ⟨h14_⟩
      have n15_ : Aside0 (w138.heap[gb208]? = some (.cells #[.int .i64 a1_0, .int .i64 a1_1, .int .i64 a1_2, .slice A1_3 l1_3.length c1_3, .slice A1_4 l1_4.length c1_4] 24 (0, 0))) := ⟨h15_⟩
      have n16_ : Aside0 (w138.heap[gb238]? = some (.cells #[.int .i64 t229, .int .i64 t230, .int .i64 t231, .slice Ao70 t232.length co70, .slice Ao72 t235.length co72] 27 (0, 0))) := ⟨h16_⟩
      have n17_ : Aside0 (w138.heap[gb248]? = some (.cells #[.int .i64 t239, .int .i64 t240, .int .i64 t241, .slice Ao82 t242.length co82, .slice Ao83 t245.length co83] 27 (0, 0))) := ⟨h17_⟩
      have n18_ : Aside0 (w138.heap[gb258]? = some (.cells #[.int .i64 t249, .int .i64 t250, .int .i64 t251, .slice Ao93 t252.length co93, .slice Ao94 t255.length co94] 27 (0, 0))) := ⟨h18_⟩
      have n19_ : Aside0 (w138.heap[gb268]? = some (.cells #[.int .i64 t259, .int .i64 t260, .int .i64 t261, .slice Ao104 t262.length co104, .slice Ao105 t265.length co105] 27 (0, 0))) := ⟨h19_⟩
      have n20_ : Aside0 (w138.heap[gb328]? = some (.cells #[.int .i64 0, .int .i64 0, .int .i64 0, .slice none 0 0, .slice none 0 0] 27 (0, 0))) := ⟨h20_⟩
      have n21_ : Aside0 (w.heap.size ≤ gb328) := ⟨h21_⟩
      have n22_ : Aside0 (w.heap.size ≤ gb328) := ⟨h22_⟩
      have n23_ : Aside0 (gb207 ≠ gb328) := ⟨h23_⟩
      have n24_ : Aside0 (gb328 ≠ gb207) := ⟨h24_⟩
      have n25_ : Aside0 (gb208 ≠ gb328) := ⟨h25_⟩
      have n26_ : Aside0 (gb328 ≠ gb208) := ⟨h26_⟩
      have n27_ : Aside0 (gb238 ≠ gb328) := ⟨h27_⟩
      have n28_ : Aside0 (gb328 ≠ gb238) := ⟨h28_⟩
      have n29_ : Aside0 (gb248 ≠ gb328) := ⟨h29_⟩
      have n30_ : Aside0 (gb328 ≠ gb248) := ⟨h30_⟩
      have n31_ : Aside0 (gb258 ≠ gb328) := ⟨h31_⟩
      have n32_ : Aside0 (gb328 ≠ gb258) := ⟨h32_⟩
      have n33_ : Aside0 (gb268 ≠ gb328) := ⟨h33_⟩
      have n34_ : Aside0 (gb328 ≠ gb268) := ⟨h34_⟩
      have n35_ : Aside0 (Below w.heap.size w w138) := ⟨h35_⟩
      clear HO234
      clear HO237
      clear HO244
      clear HO247
      clear HO254
      clear HO257
      clear HO264
      clear HO267
      clear BK207
      clear BK208
      clear BK238
      clear BK248
      clear BK258
      clear BK268
      clear HB
      clear h0_ h1_ h2_ h3_ h4_ h5_ h6_ h7_ h8_ h9_ h10_ h11_ h12_ h13_ h14_ h15_ h16_ h17_ h18_ h19_ h20_ h21_ h22_ h23_ h24_ h25_ h26_ h27_ h28_ h29_ h30_ h31_ h32_ h33_ h34_ h35_
      have HO234 := n0_
      have HO237 := n1_
      have HO244 := n2_
      have HO247 := n3_
      have HO254 := n4_
      have HO257 := n5_
      have HO264 := n6_
      have HO267 := n7_
      have HO306 := n8_
      have HO309 := n9_
      have HO315 := n10_
      have HO318 := n11_
      have HO324 := n12_
      have HO327 := n13_
      have BK207 := n14_
      have BK208 := n15_
      have BK238 := n16_
      have BK248 := n17_
      have BK258 := n18_
      have BK268 := n19_
      have BK328 := n20_
      have GW328 := n21_
      have GE328 := n22_
      have NB207_328 := n23_
      have NB328_207 := n24_
      have NB208_328 := n25_
      have NB328_208 := n26_
      have NB238_328 := n27_
      have NB328_238 := n28_
      have NB248_328 := n29_
      have NB328_248 := n30_
      have NB258_328 := n31_
      have NB328_258 := n32_
      have NB268_328 := n33_
      have NB328_268 := n34_
      have HB := n35_
      clear n0_ n1_ n2_ n3_ n4_ n5_ n6_ n7_ n8_ n9_ n10_ n11_ n12_ n13_ n14_ n15_ n16_ n17_ n18_ n19_ n20_ n21_ n22_ n23_ n24_ n25_ n26_ n27_ n28_ n29_ n30_ n31_ n32_ n33_ n34_ n35_
      have hHeld : w138.cell? ⟨gb207, 0, none⟩ = some (.int .i64 a0_0) ∧ w138.cell? ⟨gb207, 1, none⟩ = some (.int .i64 a0_1) ∧ w138.cell? ⟨gb207, 2, none⟩ = some (.int .i64 a0_2) ∧ w138.cell? ⟨gb207, 3, none⟩ = some (.slice A0_3 l0_3.length c0_3) ∧ w138.cell? ⟨gb207, 4, none⟩ = some (.slice A0_4 l0_4.length c0_4) ∧ w138.cell? ⟨gb208, 0, none⟩ = some (.int .i64 a1_0) ∧ w138.cell? ⟨gb208, 1, none⟩ = some (.int .i64 a1_1) ∧ w138.cell? ⟨gb208, 2, none⟩ = some (.int .i64 a1_2) ∧ w138.cell? ⟨gb208, 3, none⟩ = some (.slice A1_3 l1_3.length c1_3) ∧ w138.cell? ⟨gb208, 4, none⟩ = some (.slice A1_4 l1_4.length c1_4) := hS_
      obtain ⟨Ao142, co142, eo142⟩ := Kd.R_slice HO324.out
      (first | subst eo142 | (injection eo142 with f1_ f2_ f3_; have f4_ := f1_.symm; have f5_ := f3_.symm; clear f1_ f2_ f3_; subst f4_; subst f5_))
      obtain ⟨Ao144, co144, eo144⟩ := Kd.R_slice HO327.out
      (first | subst eo144 | (injection eo144 with f1_ f2_ f3_; have f4_ := f1_.symm; have f5_ := f3_.symm; clear f1_ f2_ f3_; subst f4_; subst f5_))
      refine norm_ (a' := ?_) ?_ ?_
      rotate_left
      ·simp only [putAll, Act.put, List.setIfInBounds_toArray, List.set_cons_zero, List.set_cons_succ]
       rfl
      refine one_ (i := 6) (N := none) #[true, true, true, true, true, true, true] rfl rfl (by kernel_rfl) (by decide) (fun K hK => ?_)
      have hs139 : w138.cell? ⟨gb328, 0, none⟩ = some (.int .i64 0) := (blk_cell BK328.out 0).trans rfl
      have hfs139 := blk_frozen BK328.out 0
      have hns139_0 := NB207_328.out
      have hns139_1 := NB208_328.out
      have hns139_2 := NB238_328.out
      have hns139_3 := NB248_328.out
      have hns139_4 := NB258_328.out
      have hns139_5 := NB268_328.out
      have hms139_0 := NB328_207.out
      have hms139_1 := NB328_208.out
      have hms139_2 := NB328_238.out
      have hms139_3 := NB328_248.out
      have hms139_4 := NB328_258.out
      have hms139_5 := NB328_268.out
      have hs140 : w138.cell? ⟨gb328, 1, none⟩ = some (.int .i64 0) := (blk_cell BK328.out 1).trans rfl
      have hfs140 := blk_frozen BK328.out 1
      have hns140_0 := NB207_328.out
      have hns140_1 := NB208_328.out
      have hns140_2 := NB238_328.out
      have hns140_3 := NB248_328.out
      have hns140_4 := NB258_328.out
      have hns140_5 := NB268_328.out
      have hms140_0 := NB328_207.out
      have hms140_1 := NB328_208.out
      have hms140_2 := NB328_238.out
      have hms140_3 := NB328_248.out
      have hms140_4 := NB328_258.out
      have hms140_5 := NB328_268.out
      have hs141 : w138.cell? ⟨gb328, 2, none⟩ = some (.int .i64 0) := (blk_cell BK328.out 2).trans rfl
      have hfs141 := blk_frozen BK328.out 2
      have hns141_0 := NB207_328.out
      have hns141_1 := NB208_328.out
      have hns141_2 := NB238_328.out
      have hns141_3 := NB248_328.out
      have hns141_4 := NB258_328.out
      have hns141_5 := NB268_328.out
      have hms141_0 := NB328_207.out
      have hms141_1 := NB328_208.out
      have hms141_2 := NB328_238.out
      have hms141_3 := NB328_248.out
      have hms141_4 := NB328_258.out
      have hms141_5 := NB328_268.out
      have hs143 : w138.cell? ⟨gb328, 3, none⟩ = some (.slice none 0 0) := (blk_cell BK328.out 3).trans rfl
      have hfs143 := blk_frozen BK328.out 3
      have hns143_0 := NB207_328.out
      have hns143_1 := NB208_328.out
      have hns143_2 := NB238_328.out
      have hns143_3 := NB248_328.out
      have hns143_4 := NB258_328.out
      have hns143_5 := NB268_328.out
      have hms143_0 := NB328_207.out
      have hms143_1 := NB328_208.out
      have hms143_2 := NB328_238.out
      have hms143_3 := NB328_248.out
      have hms143_4 := NB328_258.out
      have hms143_5 := NB328_268.out
      have hs145 : w138.cell? ⟨gb328, 4, none⟩ = some (.slice none 0 0) := (blk_cell BK328.out 4).trans rfl
      have hfs145 := blk_frozen BK328.out 4
      have hns145_0 := NB207_328.out
      have hns145_1 := NB208_328.out
      have hns145_2 := NB238_328.out
      have hns145_3 := NB248_328.out
      have hns145_4 := NB258_328.out
      have hns145_5 := NB268_328.out
      have hms145_0 := NB328_207.out
      have hms145_1 := NB328_208.out
      have hms145_2 := NB328_238.out
      have hms145_3 := NB328_248.out
      have hms145_4 := NB328_258.out
      have hms145_5 := NB328_268.out
      refine skip_ (w1 := ?_) (by rfl) rfl ?_ ?_
      rotate_left
      ·go_simp
       rfl
      refine hK.out _ _ ⟨((cell_far (p := ⟨gb328, _, none⟩) NB207_328.out _).trans (((cell_far (p := ⟨gb328, _, none⟩) NB207_328.out _).trans (((cell_far (p := ⟨gb328, _, none⟩) NB207_328.out _).trans (((cell_far (p := ⟨gb328, _, none⟩) NB207_328.out _).trans (((cell_far (p := ⟨gb328, _, none⟩) NB207_328.out _).trans (hHeld.1)))))))))), ((cell_far (p := ⟨gb328, _, none⟩) NB207_328.out _).trans (((cell_far (p := ⟨gb328, _, none⟩) NB207_328.out _).trans (((cell_far (p := ⟨gb328, _, none⟩) NB207_328.out _).trans (((cell_far (p := ⟨gb328, _, none⟩) NB207_328.out _).trans (((cell_far (p := ⟨gb328, _, none⟩) NB207_328.out _).trans (hHeld.2.1)))))))))), ((cell_far (p := ⟨gb328, _, none⟩) NB207_328.out _).trans (((cell_far (p := ⟨gb328, _, none⟩) NB207_328.out _).trans (((cell_far (p := ⟨gb328, _, none⟩) NB207_328.out _).trans (((cell_far (p := ⟨gb328, _, none⟩) NB207_328.out _).trans (((cell_far (p := ⟨gb328, _, none⟩) NB207_328.out _).trans (hHeld.2.2.1)))))))))), ((cell_far (p := ⟨gb328, _, none⟩) NB207_328.out _).trans (((cell_far (p := ⟨gb328, _, none⟩) NB207_328.out _).trans (((cell_far (p := ⟨gb328, _, none⟩) NB207_328.out _).trans (((cell_far (p := ⟨gb328, _, none⟩) NB207_328.out _).trans (((cell_far (p := ⟨gb328, _, none⟩) NB207_328.out _).trans (hHeld.2.2.2.1)))))))))), ((cell_far (p := ⟨gb328, _, none⟩) NB207_328.out _).trans (((cell_far (p := ⟨gb328, _, none⟩) NB207_328.out _).trans (((cell_far (p := ⟨gb328, _, none⟩) NB207_328.out _).trans (((cell_far (p := ⟨gb328, _, none⟩) NB207_328.out _).trans (((cell_far (p := ⟨gb328, _, none⟩) NB207_328.out _).trans (hHeld.2.2.2.2.1)))))))))), ((cell_far (p := ⟨gb328, _, none⟩) NB208_328.out _).trans (((cell_far (p := ⟨gb328, _, none⟩) NB208_328.out _).trans (((cell_far (p := ⟨gb328, _, none⟩) NB208_328.out _).trans (((cell_far (p := ⟨gb328, _, none⟩) NB208_328.out _).trans (((cell_far (p := ⟨gb328, _, none⟩) NB208_328.out _).trans (hHeld.2.2.2.2.2.1)))))))))), ((cell_far (p := ⟨gb328, _, none⟩) NB208_328.out _).trans (((cell_far (p := ⟨gb328, _, none⟩) NB208_328.out _).trans (((cell_far (p := ⟨gb328, _, none⟩) NB208_328.out _).trans (((cell_far (p := ⟨gb328, _, none⟩) NB208_328.out _).trans (((cell_far (p := ⟨gb328, _, none⟩) NB208_328.out _).trans (hHeld.2.2.2.2.2.2.1)))))))))), ((cell_far (p := ⟨gb328, _, none⟩) NB208_328.out _).trans (((cell_far (p := ⟨gb328, _, none⟩) NB208_328.out _).trans (((cell_far (p := ⟨gb328, _, none⟩) NB208_328.out _).trans (((cell_far (p := ⟨gb328, _, none⟩) NB208_328.out _).trans (((cell_far (p := ⟨gb328, _, none⟩) NB208_328.out _).trans (hHeld.2.2.2.2.2.2.2.1)))))))))), ((cell_far (p := ⟨gb328, _, none⟩) NB208_328.out _).trans (((cell_far (p := ⟨gb328, _, none⟩) NB208_328.out _).trans (((cell_far (p := ⟨gb328, _, none⟩) NB208_328.out _).trans (((cell_far (p := ⟨gb328, _, none⟩) NB208_328.out _).trans (((cell_far (p := ⟨gb328, _, none⟩) NB208_328.out _).trans (hHeld.2.2.2.2.2.2.2.2.1)))))))))), ((cell_far (p := ⟨gb328, _, none⟩) NB208_328.out _).trans (((cell_far (p := ⟨gb328, _, none⟩) NB208_328.out _).trans (((cell_far (p := ⟨gb328, _, none⟩) NB208_328.out _).trans (((cell_far (p := ⟨gb328, _, none⟩) NB208_328.out _).trans (((cell_far (p := ⟨gb328, _, none⟩) NB208_328.out _).trans (hHeld.2.2.2.2.2.2.2.2.2))))))))))⟩ (fun hHeld => ?_)
      clear hK K
      refine done_ (by kernel_rfl) ?_
      have hnb146 := NB328_207.out
      have hnc146 := NB207_328.out
      have hnb147 := NB328_208.out
      have hnc147 := NB208_328.out
      have hnb148 := NB328_238.out
      have hnc148 := NB238_328.out
      have hnb149 := NB328_248.out
      have hnc149 := NB248_328.out
      have hnb150 := NB328_258.out
      have hnc150 := NB258_328.out
      have hnb151 := NB328_268.out
      have hnc151 := NB268_328.out
      have hcz152_0 : w138.cell? ⟨gb328, 0, none⟩ = some (.int .i64 0) := (blk_cell BK328.out 0).trans rfl
      have hcz152_1 : w138.cell? ⟨gb328, 1, none⟩ = some (.int .i64 0) := (blk_cell BK328.out 1).trans rfl
      have hcz152_2 : w138.cell? ⟨gb328, 2, none⟩ = some (.int .i64 0) := (blk_cell BK328.out 2).trans rfl
      have hcz152_3 : w138.cell? ⟨gb328, 3, none⟩ = some (.slice none 0 0) := (blk_cell BK328.out 3).trans rfl
      have hcz152_4 : w138.cell? ⟨gb328, 4, none⟩ = some (.slice none 0 0) := (blk_cell BK328.out 4).trans rfl
      have hfz152_0 := blk_frozen BK328.out 0
      have hfz152_1 := blk_frozen BK328.out 1
      have hfz152_2 := blk_frozen BK328.out 2
      have hfz152_3 := blk_frozen BK328.out 3
      have hfz152_4 := blk_frozen BK328.out 4
      have hcz153_0 : w138.cell? ⟨gb238, 0, none⟩ = some (.int .i64 t229) := (blk_cell BK238.out 0).trans rfl
      have hcz153_1 : w138.cell? ⟨gb238, 1, none⟩ = some (.int .i64 t230) := (blk_cell BK238.out 1).trans rfl
      have hcz153_2 : w138.cell? ⟨gb238, 2, none⟩ = some (.int .i64 t231) := (blk_cell BK238.out 2).trans rfl
      have hcz153_3 : w138.cell? ⟨gb238, 3, none⟩ = some (.slice Ao70 t232.length co70) := (blk_cell BK238.out 3).trans rfl
      have hcz153_4 : w138.cell? ⟨gb238, 4, none⟩ = some (.slice Ao72 t235.length co72) := (blk_cell BK238.out 4).trans rfl
      have hfz153_0 := blk_frozen BK238.out 0
      have hfz153_1 := blk_frozen BK238.out 1
      have hfz153_2 := blk_frozen BK238.out 2
      have hfz153_3 := blk_frozen BK238.out 3
      have hfz153_4 := blk_frozen BK238.out 4
      try go_wp2_with (first | ((with_reducible refine gate_callee (f := 15) rfl ?_); refine goesL_ (some 82) rfl rfl Try.func15 (by kernel_rfl) rfl #[.agg #[.int .i64 t319, .int .i64 t320, .int .i64 t321, .slice Ao142 t322.length co142, .slice Ao144 t325.length co144], .agg #[.int .i64 t229, .int .i64 t230, .int .i64 t231, .slice Ao70 t232.length co70, .slice Ao72 t235.length co72]] rfl (by (try simp only [List.map_toArray, List.map_cons, List.map_nil]); first | done | rfl) ?_; (with_reducible refine (laws_eqPattern.calls k t319 t320 t321 _ _ t322 _ _ t325 t229 t230 t231 _ _ t232 _ _ t235 true _ ?side1 ?side2 ?side3 ?side4 ?side5 ?side6 ?side7 ?side8 A45.out).mono ?_); (case side1 => refine (Kd.R_reads' (e := 3) (base := w.heap.size) (ok := fun k_ => (Nb_ k_ Ao70 t232 co70 ∧ (Nb_ k_ Ao72 t235 co72 ∧ (Nb_ k_ Ao82 t242 co82 ∧ (Nb_ k_ Ao83 t245 co83 ∧ (Nb_ k_ Ao93 t252 co93 ∧ (Nb_ k_ Ao94 t255 co94 ∧ (Nb_ k_ Ao104 t262 co104 ∧ (Nb_ k_ Ao105 t265 co105 ∧ (Nv_ k_ v305 ∧ (Nv_ k_ v308 ∧ (Nv_ k_ v314 ∧ (Nv_ k_ v317 ∧ Nb_ k_ Ao144 t325 co144))))))))))))) (n := t322.length) (c := co142) ?_).2.2; exact (Kd.R_mono (Kd.R_far (p := ⟨gb328, 4, none⟩) (Kd.R_far (p := ⟨gb328, 3, none⟩) (Kd.R_far (p := ⟨gb328, 2, none⟩) (Kd.R_far (p := ⟨gb328, 1, none⟩) (Kd.R_far (p := ⟨gb328, 0, none⟩) (Kd.R_types HO324.out BK328.out (by decide)) (fun _ hk => hk.2) (.int .i64 t319)) (fun _ hk => hk.2) (.int .i64 t320)) (fun _ hk => hk.2) (.int .i64 t321)) (fun _ hk => hk.2) (.slice Ao142 t322.length co142)) (fun _ hk => hk.2) (.slice Ao144 t325.length co144)) (fun _ h_ => h_.1))); (case side2 => exact (Kd.R_reads' HO324.out).2.1); (case side3 => refine (Kd.R_reads' (e := 3) (base := w.heap.size) (ok := fun k_ => (Nb_ k_ Ao70 t232 co70 ∧ (Nb_ k_ Ao72 t235 co72 ∧ (Nb_ k_ Ao82 t242 co82 ∧ (Nb_ k_ Ao83 t245 co83 ∧ (Nb_ k_ Ao93 t252 co93 ∧ (Nb_ k_ Ao94 t255 co94 ∧ (Nb_ k_ Ao104 t262 co104 ∧ (Nb_ k_ Ao105 t265 co105 ∧ (Nv_ k_ v305 ∧ (Nv_ k_ v308 ∧ (Nv_ k_ v314 ∧ (Nv_ k_ v317 ∧ Nb_ k_ Ao142 t322 co142))))))))))))) (n := t325.length) (c := co144) ?_).2.2; exact (Kd.R_mono (Kd.R_far (p := ⟨gb328, 4, none⟩) (Kd.R_far (p := ⟨gb328, 3, none⟩) (Kd.R_far (p := ⟨gb328, 2, none⟩) (Kd.R_far (p := ⟨gb328, 1, none⟩) (Kd.R_far (p := ⟨gb328, 0, none⟩) (Kd.R_types HO327.out BK328.out (by decide)) (fun _ hk => hk.2) (.int .i64 t319)) (fun _ hk => hk.2) (.int .i64 t320)) (fun _ hk => hk.2) (.int .i64 t321)) (fun _ hk => hk.2) (.slice Ao142 t322.length co142)) (fun _ hk => hk.2) (.slice Ao144 t325.length co144)) (fun _ h_ => h_.1))); (case side4 => exact (Kd.R_reads' HO327.out).2.1); (case side5 => refine (Kd.R_reads' (e := 3) (base := w.heap.size) (ok := fun k_ => (Nb_ k_ Ao72 t235 co72 ∧ (Nb_ k_ Ao82 t242 co82 ∧ (Nb_ k_ Ao83 t245 co83 ∧ (Nb_ k_ Ao93 t252 co93 ∧ (Nb_ k_ Ao94 t255 co94 ∧ (Nb_ k_ Ao104 t262 co104 ∧ (Nb_ k_ Ao105 t265 co105 ∧ (Nv_ k_ v305 ∧ (Nv_ k_ v308 ∧ (Nv_ k_ v314 ∧ (Nv_ k_ v317 ∧ (Nb_ k_ Ao142 t322 co142 ∧ Nb_ k_ Ao144 t325 co144))))))))))))) (n := t232.length) (c := co70) ?_).2.2; exact (Kd.R_mono (Kd.R_far (p := ⟨gb328, 4, none⟩) (Kd.R_far (p := ⟨gb328, 3, none⟩) (Kd.R_far (p := ⟨gb328, 2, none⟩) (Kd.R_far (p := ⟨gb328, 1, none⟩) (Kd.R_far (p := ⟨gb328, 0, none⟩) (Kd.R_types HO234.out BK328.out (by decide)) (fun _ hk => hk.2) (.int .i64 t319)) (fun _ hk => hk.2) (.int .i64 t320)) (fun _ hk => hk.2) (.int .i64 t321)) (fun _ hk => hk.2) (.slice Ao142 t322.length co142)) (fun _ hk => hk.2) (.slice Ao144 t325.length co144)) (fun _ h_ => h_.1))); (case side6 => exact (Kd.R_reads' HO234.out).2.1); (case side7 => refine (Kd.R_reads' (e := 3) (base := w.heap.size) (ok := fun k_ => (Nb_ k_ Ao70 t232 co70 ∧ (Nb_ k_ Ao82 t242 co82 ∧ (Nb_ k_ Ao83 t245 co83 ∧ (Nb_ k_ Ao93 t252 co93 ∧ (Nb_ k_ Ao94 t255 co94 ∧ (Nb_ k_ Ao104 t262 co104 ∧ (Nb_ k_ Ao105 t265 co105 ∧ (Nv_ k_ v305 ∧ (Nv_ k_ v308 ∧ (Nv_ k_ v314 ∧ (Nv_ k_ v317 ∧ (Nb_ k_ Ao142 t322 co142 ∧ Nb_ k_ Ao144 t325 co144))))))))))))) (n := t235.length) (c := co72) ?_).2.2; exact (Kd.R_mono (Kd.R_far (p := ⟨gb328, 4, none⟩) (Kd.R_far (p := ⟨gb328, 3, none⟩) (Kd.R_far (p := ⟨gb328, 2, none⟩) (Kd.R_far (p := ⟨gb328, 1, none⟩) (Kd.R_far (p := ⟨gb328, 0, none⟩) (Kd.R_types HO237.out BK328.out (by decide)) (fun _ hk => hk.2) (.int .i64 t319)) (fun _ hk => hk.2) (.int .i64 t320)) (fun _ hk => hk.2) (.int .i64 t321)) (fun _ hk => hk.2) (.slice Ao142 t322.length co142)) (fun _ hk => hk.2) (.slice Ao144 t325.length co144)) (fun _ h_ => h_.1))); (case side8 => exact (Kd.R_reads' HO237.out).2.1); rintro e w154 ⟨rfl, hb⟩; refine ⟨_, rfl, ?_⟩; replace HO234 := Aside0.mk (Kd.R_below (Kd.R_mono (Kd.R_far (p := ⟨gb328, 4, none⟩) (Kd.R_far (p := ⟨gb328, 3, none⟩) (Kd.R_far (p := ⟨gb328, 2, none⟩) (Kd.R_far (p := ⟨gb328, 1, none⟩) (Kd.R_far (p := ⟨gb328, 0, none⟩) (Kd.R_types HO234.out BK328.out (by decide)) (fun _ hk => hk.2) (.int .i64 t319)) (fun _ hk => hk.2) (.int .i64 t320)) (fun _ hk => hk.2) (.int .i64 t321)) (fun _ hk => hk.2) (.slice Ao142 t322.length co142)) (fun _ hk => hk.2) (.slice Ao144 t325.length co144)) (fun _ h_ => h_.1)) hb); replace HO237 := Aside0.mk (Kd.R_below (Kd.R_mono (Kd.R_far (p := ⟨gb328, 4, none⟩) (Kd.R_far (p := ⟨gb328, 3, none⟩) (Kd.R_far (p := ⟨gb328, 2, none⟩) (Kd.R_far (p := ⟨gb328, 1, none⟩) (Kd.R_far (p := ⟨gb328, 0, none⟩) (Kd.R_types HO237.out BK328.out (by decide)) (fun _ hk => hk.2) (.int .i64 t319)) (fun _ hk => hk.2) (.int .i64 t320)) (fun _ hk => hk.2) (.int .i64 t321)) (fun _ hk => hk.2) (.slice Ao142 t322.length co142)) (fun _ hk => hk.2) (.slice Ao144 t325.length co144)) (fun _ h_ => h_.1)) hb); replace HO264 := Aside0.mk (Kd.R_below (Kd.R_mono (Kd.R_far (p := ⟨gb328, 4, none⟩) (Kd.R_far (p := ⟨gb328, 3, none⟩) (Kd.R_far (p := ⟨gb328, 2, none⟩) (Kd.R_far (p := ⟨gb328, 1, none⟩) (Kd.R_far (p := ⟨gb328, 0, none⟩) (Kd.R_types HO264.out BK328.out (by decide)) (fun _ hk => hk.2) (.int .i64 t319)) (fun _ hk => hk.2) (.int .i64 t320)) (fun _ hk => hk.2) (.int .i64 t321)) (fun _ hk => hk.2) (.slice Ao142 t322.length co142)) (fun _ hk => hk.2) (.slice Ao144 t325.length co144)) (fun _ h_ => h_.1)) hb); replace HO267 := Aside0.mk (Kd.R_below (Kd.R_mono (Kd.R_far (p := ⟨gb328, 4, none⟩) (Kd.R_far (p := ⟨gb328, 3, none⟩) (Kd.R_far (p := ⟨gb328, 2, none⟩) (Kd.R_far (p := ⟨gb328, 1, none⟩) (Kd.R_far (p := ⟨gb328, 0, none⟩) (Kd.R_types HO267.out BK328.out (by decide)) (fun _ hk => hk.2) (.int .i64 t319)) (fun _ hk => hk.2) (.int .i64 t320)) (fun _ hk => hk.2) (.int .i64 t321)) (fun _ hk => hk.2) (.slice Ao142 t322.length co142)) (fun _ hk => hk.2) (.slice Ao144 t325.length co144)) (fun _ h_ => h_.1)) hb); replace HO324 := Aside0.mk (Kd.R_below (Kd.R_mono (Kd.R_far (p := ⟨gb328, 4, none⟩) (Kd.R_far (p := ⟨gb328, 3, none⟩) (Kd.R_far (p := ⟨gb328, 2, none⟩) (Kd.R_far (p := ⟨gb328, 1, none⟩) (Kd.R_far (p := ⟨gb328, 0, none⟩) (Kd.R_types HO324.out BK328.out (by decide)) (fun _ hk => hk.2) (.int .i64 t319)) (fun _ hk => hk.2) (.int .i64 t320)) (fun _ hk => hk.2) (.int .i64 t321)) (fun _ hk => hk.2) (.slice Ao142 t322.length co142)) (fun _ hk => hk.2) (.slice Ao144 t325.length co144)) (fun _ h_ => h_.1)) hb); replace HO327 := Aside0.mk (Kd.R_below (Kd.R_mono (Kd.R_far (p := ⟨gb328, 4, none⟩) (Kd.R_far (p := ⟨gb328, 3, none⟩) (Kd.R_far (p := ⟨gb328, 2, none⟩) (Kd.R_far (p := ⟨gb328, 1, none⟩) (Kd.R_far (p := ⟨gb328, 0, none⟩) (Kd.R_types HO327.out BK328.out (by decide)) (fun _ hk => hk.2) (.int .i64 t319)) (fun _ hk => hk.2) (.int .i64 t320)) (fun _ hk => hk.2) (.int .i64 t321)) (fun _ hk => hk.2) (.slice Ao142 t322.length co142)) (fun _ hk => hk.2) (.slice Ao144 t325.length co144)) (fun _ h_ => h_.1)) hb); replace BK207 := Aside0.mk (blk_below (g := gb207) (o := .cells #[.int .i64 a0_0, .int .i64 a0_1, .int .i64 a0_2, .slice A0_3 l0_3.length c0_3, .slice A0_4 l0_4.length c0_4] 24 (0, 0)) (by (with_reducible repeat (first | refine blk_drewN ?_ _ | refine blk_drew ?_ | refine blk_alloc ?_ _)); refine blk_far ?_ NB207_328.out _; (with_reducible repeat (first | refine blk_drewN ?_ _ | refine blk_drew ?_ | refine blk_alloc ?_ _)); refine blk_far ?_ NB207_328.out _; (with_reducible repeat (first | refine blk_drewN ?_ _ | refine blk_drew ?_ | refine blk_alloc ?_ _)); refine blk_far ?_ NB207_328.out _; (with_reducible repeat (first | refine blk_drewN ?_ _ | refine blk_drew ?_ | refine blk_alloc ?_ _)); refine blk_far ?_ NB207_328.out _; (with_reducible repeat (first | refine blk_drewN ?_ _ | refine blk_drew ?_ | refine blk_alloc ?_ _)); refine blk_far ?_ NB207_328.out _; (with_reducible repeat (first | refine blk_drewN ?_ _ | refine blk_drew ?_ | refine blk_alloc ?_ _)); exact BK207.out) hb); replace BK208 := Aside0.mk (blk_below (g := gb208) (o := .cells #[.int .i64 a1_0, .int .i64 a1_1, .int .i64 a1_2, .slice A1_3 l1_3.length c1_3, .slice A1_4 l1_4.length c1_4] 24 (0, 0)) (by (with_reducible repeat (first | refine blk_drewN ?_ _ | refine blk_drew ?_ | refine blk_alloc ?_ _)); refine blk_far ?_ NB208_328.out _; (with_reducible repeat (first | refine blk_drewN ?_ _ | refine blk_drew ?_ | refine blk_alloc ?_ _)); refine blk_far ?_ NB208_328.out _; (with_reducible repeat (first | refine blk_drewN ?_ _ | refine blk_drew ?_ | refine blk_alloc ?_ _)); refine blk_far ?_ NB208_328.out _; (with_reducible repeat (first | refine blk_drewN ?_ _ | refine blk_drew ?_ | refine blk_alloc ?_ _)); refine blk_far ?_ NB208_328.out _; (with_reducible repeat (first | refine blk_drewN ?_ _ | refine blk_drew ?_ | refine blk_alloc ?_ _)); refine blk_far ?_ NB208_328.out _; (with_reducible repeat (first | refine blk_drewN ?_ _ | refine blk_drew ?_ | refine blk_alloc ?_ _)); exact BK208.out) hb); replace BK238 := Aside0.mk (blk_below (g := gb238) (o := .cells #[.int .i64 t229, .int .i64 t230, .int .i64 t231, .slice Ao70 t232.length co70, .slice Ao72 t235.length co72] 27 (0, 0)) (by (with_reducible repeat (first | refine blk_drewN ?_ _ | refine blk_drew ?_ | refine blk_alloc ?_ _)); refine blk_far ?_ NB238_328.out _; (with_reducible repeat (first | refine blk_drewN ?_ _ | refine blk_drew ?_ | refine blk_alloc ?_ _)); refine blk_far ?_ NB238_328.out _; (with_reducible repeat (first | refine blk_drewN ?_ _ | refine blk_drew ?_ | refine blk_alloc ?_ _)); refine blk_far ?_ NB238_328.out _; (with_reducible repeat (first | refine blk_drewN ?_ _ | refine blk_drew ?_ | refine blk_alloc ?_ _)); refine blk_far ?_ NB238_328.out _; (with_reducible repeat (first | refine blk_drewN ?_ _ | refine blk_drew ?_ | refine blk_alloc ?_ _)); refine blk_far ?_ NB238_328.out _; (with_reducible repeat (first | refine blk_drewN ?_ _ | refine blk_drew ?_ | refine blk_alloc ?_ _)); exact BK238.out) hb); replace BK248 := Aside0.mk (blk_below (g := gb248) (o := .cells #[.int .i64 t239, .int .i64 t240, .int .i64 t241, .slice Ao82 t242.length co82, .slice Ao83 t245.length co83] 27 (0, 0)) (by (with_reducible repeat (first | refine blk_drewN ?_ _ | refine blk_drew ?_ | refine blk_alloc ?_ _)); refine blk_far ?_ NB248_328.out _; (with_reducible repeat (first | refine blk_drewN ?_ _ | refine blk_drew ?_ | refine blk_alloc ?_ _)); refine blk_far ?_ NB248_328.out _; (with_reducible repeat (first | refine blk_drewN ?_ _ | refine blk_drew ?_ | refine blk_alloc ?_ _)); refine blk_far ?_ NB248_328.out _; (with_reducible repeat (first | refine blk_drewN ?_ _ | refine blk_drew ?_ | refine blk_alloc ?_ _)); refine blk_far ?_ NB248_328.out _; (with_reducible repeat (first | refine blk_drewN ?_ _ | refine blk_drew ?_ | refine blk_alloc ?_ _)); refine blk_far ?_ NB248_328.out _; (with_reducible repeat (first | refine blk_drewN ?_ _ | refine blk_drew ?_ | refine blk_alloc ?_ _)); exact BK248.out) hb); replace BK258 := Aside0.mk (blk_below (g := gb258) (o := .cells #[.int .i64 t249, .int .i64 t250, .int .i64 t251, .slice Ao93 t252.length co93, .slice Ao94 t255.length co94] 27 (0, 0)) (by (with_reducible repeat (first | refine blk_drewN ?_ _ | refine blk_drew ?_ | refine blk_alloc ?_ _)); refine blk_far ?_ NB258_328.out _; (with_reducible repeat (first | refine blk_drewN ?_ _ | refine blk_drew ?_ | refine blk_alloc ?_ _)); refine blk_far ?_ NB258_328.out _; (with_reducible repeat (first | refine blk_drewN ?_ _ | refine blk_drew ?_ | refine blk_alloc ?_ _)); refine blk_far ?_ NB258_328.out _; (with_reducible repeat (first | refine blk_drewN ?_ _ | refine blk_drew ?_ | refine blk_alloc ?_ _)); refine blk_far ?_ NB258_328.out _; (with_reducible repeat (first | refine blk_drewN ?_ _ | refine blk_drew ?_ | refine blk_alloc ?_ _)); refine blk_far ?_ NB258_328.out _; (with_reducible repeat (first | refine blk_drewN ?_ _ | refine blk_drew ?_ | refine blk_alloc ?_ _)); exact BK258.out) hb); replace BK268 := Aside0.mk (blk_below (g := gb268) (o := .cells #[.int .i64 t259, .int .i64 t260, .int .i64 t261, .slice Ao104 t262.length co104, .slice Ao105 t265.length co105] 27 (0, 0)) (by (with_reducible repeat (first | refine blk_drewN ?_ _ | refine blk_drew ?_ | refine blk_alloc ?_ _)); refine blk_far ?_ NB268_328.out _; (with_reducible repeat (first | refine blk_drewN ?_ _ | refine blk_drew ?_ | refine blk_alloc ?_ _)); refine blk_far ?_ NB268_328.out _; (with_reducible repeat (first | refine blk_drewN ?_ _ | refine blk_drew ?_ | refine blk_alloc ?_ _)); refine blk_far ?_ NB268_328.out _; (with_reducible repeat (first | refine blk_drewN ?_ _ | refine blk_drew ?_ | refine blk_alloc ?_ _)); refine blk_far ?_ NB268_328.out _; (with_reducible repeat (first | refine blk_drewN ?_ _ | refine blk_drew ?_ | refine blk_alloc ?_ _)); refine blk_far ?_ NB268_328.out _; (with_reducible repeat (first | refine blk_drewN ?_ _ | refine blk_drew ?_ | refine blk_alloc ?_ _)); exact BK268.out) hb); replace BK328 := Aside0.mk (blk_below (g := gb328) (o := .cells #[.int .i64 t319, .int .i64 t320, .int .i64 t321, .slice Ao142 t322.length co142, .slice Ao144 t325.length co144] 27 (0, 0)) (by (with_reducible repeat (first | refine blk_drewN ?_ _ | refine blk_drew ?_ | refine blk_alloc ?_ _)); refine blk_put (cs := #[.int .i64 t319, .int .i64 t320, .int .i64 t321, .slice Ao142 t322.length co142, .slice none 0 0]) ?_ 4 _ rfl; (with_reducible repeat (first | refine blk_drewN ?_ _ | refine blk_drew ?_ | refine blk_alloc ?_ _)); refine blk_put (cs := #[.int .i64 t319, .int .i64 t320, .int .i64 t321, .slice none 0 0, .slice none 0 0]) ?_ 3 _ rfl; (with_reducible repeat (first | refine blk_drewN ?_ _ | refine blk_drew ?_ | refine blk_alloc ?_ _)); refine blk_put (cs := #[.int .i64 t319, .int .i64 t320, .int .i64 0, .slice none 0 0, .slice none 0 0]) ?_ 2 _ rfl; (with_reducible repeat (first | refine blk_drewN ?_ _ | refine blk_drew ?_ | refine blk_alloc ?_ _)); refine blk_put (cs := #[.int .i64 t319, .int .i64 0, .int .i64 0, .slice none 0 0, .slice none 0 0]) ?_ 1 _ rfl; (with_reducible repeat (first | refine blk_drewN ?_ _ | refine blk_drew ?_ | refine blk_alloc ?_ _)); refine blk_put (cs := #[.int .i64 0, .int .i64 0, .int .i64 0, .slice none 0 0, .slice none 0 0]) ?_ 0 _ rfl; (with_reducible repeat (first | refine blk_drewN ?_ _ | refine blk_drew ?_ | refine blk_alloc ?_ _)); exact BK328.out) hb); replace HB := Aside0.mk (below_step (by repeat (first | (with_reducible first | exact HB.out | apply below_alloc | apply pw_below_drewN | apply below_drew1 | refine below_set ?_ GE207.out | refine below_set ?_ GE208.out | refine below_set ?_ GE238.out | refine below_set ?_ GE248.out | refine below_set ?_ GE258.out | refine below_set ?_ GE268.out | refine below_set ?_ GE328.out) | exact HB.out)) hb); (try clear hb); (try clear hb2); (try clear hk); (try clear hi); have hcz155_0 : w154.cell? ⟨gb268, 0, none⟩ = some (.int .i64 t259) := (blk_cell BK268.out 0).trans rfl; have hcz155_1 : w154.cell? ⟨gb268, 1, none⟩ = some (.int .i64 t260) := (blk_cell BK268.out 1).trans rfl; have hcz155_2 : w154.cell? ⟨gb268, 2, none⟩ = some (.int .i64 t261) := (blk_cell BK268.out 2).trans rfl; have hcz155_3 : w154.cell? ⟨gb268, 3, none⟩ = some (.slice Ao104 t262.length co104) := (blk_cell BK268.out 3).trans rfl; have hcz155_4 : w154.cell? ⟨gb268, 4, none⟩ = some (.slice Ao105 t265.length co105) := (blk_cell BK268.out 4).trans rfl; have hfz155_0 := blk_frozen BK268.out 0; have hfz155_1 := blk_frozen BK268.out 1; have hfz155_2 := blk_frozen BK268.out 2; have hfz155_3 := blk_frozen BK268.out 3; have hfz155_4 := blk_frozen BK268.out 4) | ((with_reducible refine gate_callee (f := 25) rfl ?_); refine goesL_ (some 86) rfl rfl Try.func25 (by kernel_rfl) rfl #[.agg #[.int .i64 t259, .int .i64 t260, .int .i64 t261, .slice Ao104 t298.length co104, .slice Ao105 t299.length co105], .int .i64 1] rfl (by (try simp only [List.map_toArray, List.map_cons, List.map_nil]); first | done | (rw [show t298.length = t262.length from (Kd.R_reads' HO264.out).1.symm, show t299.length = t265.length from (Kd.R_reads' HO267.out).1.symm] <;> rfl) | rfl | (simp only [List.length_drop, List.length_take]; rfl)) ?_; (with_reducible refine (laws_heldPattern.calls k t259 t260 t261 _ _ t298 _ _ t299 1 t330 _ ?side1 ?side2 ?side3 ?side4 A47.out).mono ?_); (case side1 => exact (Kd.R_reads' HO264.out).2.2); (case side2 => rw [show t298.length = t262.length from (Kd.R_reads' HO264.out).1.symm]; exact (Kd.R_reads' HO264.out).2.1); (case side3 => exact (Kd.R_reads' HO267.out).2.2); (case side4 => rw [show t299.length = t265.length from (Kd.R_reads' HO267.out).1.symm]; exact (Kd.R_reads' HO267.out).2.1); rintro e w156 ⟨rfl, hb⟩; refine ⟨_, rfl, ?_⟩; replace HO234 := Aside0.mk (Kd.R_below HO234.out hb); replace HO237 := Aside0.mk (Kd.R_below HO237.out hb); replace HO264 := Aside0.mk (Kd.R_below HO264.out hb); replace HO267 := Aside0.mk (Kd.R_below HO267.out hb); replace HO324 := Aside0.mk (Kd.R_below HO324.out hb); replace HO327 := Aside0.mk (Kd.R_below HO327.out hb); replace BK207 := Aside0.mk (blk_below BK207.out hb); replace BK208 := Aside0.mk (blk_below BK208.out hb); replace BK238 := Aside0.mk (blk_below BK238.out hb); replace BK248 := Aside0.mk (blk_below BK248.out hb); replace BK258 := Aside0.mk (blk_below BK258.out hb); replace BK268 := Aside0.mk (blk_below BK268.out hb); replace BK328 := Aside0.mk (blk_below BK328.out hb); replace HB := Aside0.mk (below_step HB.out hb); (try clear hb); (try clear hb2); (try clear hk); (try clear hi)))
      go_ret
      exact ⟨by first | rfl | (simp [errW_none, errW_some] <;> rfl) | (simp [*, errW_none, errW_some] <;> rfl), by repeat (first | (with_reducible first | exact HB.out | apply below_alloc | apply pw_below_drewN | apply below_drew1 | refine below_set ?_ GE207.out | refine below_set ?_ GE208.out | refine below_set ?_ GE238.out | refine below_set ?_ GE248.out | refine below_set ?_ GE258.out | refine below_set ?_ GE268.out | refine below_set ?_ GE328.out) | exact HB.out)⟩
  rw [if_pos c11] at H
  have c11b0 : decide (t210 < 0) = true := decide_eq_true c11
  clear c11
  clear H
  go_enter Try.func9, Try.ntmps9
  go_wp2_with (first | ((with_reducible refine gate_dst (N := 2) rfl ?_); refine box_event ?hg (N := 2) ?hd (cs := #[.int .i64 a0_0, .int .i64 a0_1, .int .i64 a0_2, .slice A0_3 l0_3.length c0_3, .slice A0_4 l0_4.length c0_4]) (t := 24) ?hr ?_; (case hd => rfl); (case hg => rfl); (case hr => first | (go_simp; done) | (go_simp; rfl)); intro gb207 hg w12 hbox hb; have BK207 := Aside0.mk (hbox); have GW207 := Aside0.mk ((by rw [hg]; exact (below_size HB.out) : w.heap.size ≤ gb207)); have GE207 := Aside0.mk ((by rw [hg]; exact (below_size HB.out) : w.heap.size ≤ gb207)); replace HB := Aside0.mk (below_step HB.out hb); clear hb hbox hg) | ((with_reducible refine gate_dst (N := 3) rfl ?_); refine box_event ?hg (N := 3) ?hd (cs := #[.int .i64 a1_0, .int .i64 a1_1, .int .i64 a1_2, .slice A1_3 l1_3.length c1_3, .slice A1_4 l1_4.length c1_4]) (t := 24) ?hr ?_; (case hd => rfl); (case hg => rfl); (case hr => first | (go_simp; done) | (go_simp; rfl)); intro gb208 hg w13 hbox hb; have BK208 := Aside0.mk (hbox); have GW208 := Aside0.mk ((by rw [hg]; exact (below_size HB.out) : w.heap.size ≤ gb208)); have GE208 := Aside0.mk ((by rw [hg]; exact (below_size HB.out) : w.heap.size ≤ gb208)); replace HB := Aside0.mk (below_step HB.out hb); have NB207_208 := Aside0.mk ((by rw [hg]; exact Nat.ne_of_lt (blk_lt BK207.out) : gb207 ≠ gb208)); have NB208_207 := Aside0.mk ((by rw [hg]; exact Nat.ne_of_gt (blk_lt BK207.out) : gb208 ≠ gb207)); replace BK207 := Aside0.mk (blk_below BK207.out hb); clear hb hbox hg; have hnb14 := NB207_208.out; have hnc14 := NB208_207.out; have hcz15_0 : w13.cell? ⟨gb207, 0, none⟩ = some (.int .i64 a0_0) := (blk_cell BK207.out 0).trans rfl; have hcz15_1 : w13.cell? ⟨gb207, 1, none⟩ = some (.int .i64 a0_1) := (blk_cell BK207.out 1).trans rfl; have hcz15_2 : w13.cell? ⟨gb207, 2, none⟩ = some (.int .i64 a0_2) := (blk_cell BK207.out 2).trans rfl; have hcz15_3 : w13.cell? ⟨gb207, 3, none⟩ = some (.slice A0_3 l0_3.length c0_3) := (blk_cell BK207.out 3).trans rfl; have hcz15_4 : w13.cell? ⟨gb207, 4, none⟩ = some (.slice A0_4 l0_4.length c0_4) := (blk_cell BK207.out 4).trans rfl; have hfz15_0 := blk_frozen BK207.out 0; have hfz15_1 := blk_frozen BK207.out 1; have hfz15_2 := blk_frozen BK207.out 2; have hfz15_3 := blk_frozen BK207.out 3; have hfz15_4 := blk_frozen BK207.out 4) | ((with_reducible refine gate_callee (f := 11) rfl ?_); refine goesL_ (some 16) rfl rfl Try.func11 (by kernel_rfl) rfl #[.agg #[.int .i64 a0_0, .int .i64 a0_1, .int .i64 a0_2, .slice A0_3 l0_3.length c0_3, .slice A0_4 l0_4.length c0_4], .int .i64 1048576] rfl (by (try simp only [List.map_toArray, List.map_cons, List.map_nil]); first | done | rfl) ?_; (with_reducible refine (laws_szPattern.calls a0_0 a0_1 a0_2 _ _ l0_3 _ _ l0_4 1048576 t209 _ ?side1 ?side2 ?side3 ?side4 A3.out).mono ?_); (case side1 => exact (Kd.C_below HR0_3.out HB.out)); (case side2 => exact HC0_3.out); (case side3 => exact (Kd.C_below HR0_4.out HB.out)); (case side4 => exact HC0_4.out); rintro e w16 ⟨rfl, hb⟩; refine ⟨_, rfl, ?_⟩; replace BK207 := Aside0.mk (blk_below BK207.out hb); replace BK208 := Aside0.mk (blk_below BK208.out hb); replace HB := Aside0.mk (below_step HB.out hb); (try clear hb); (try clear hb2); (try clear hk); (try clear hi); have hcz17_0 : w16.cell? ⟨gb208, 0, none⟩ = some (.int .i64 a1_0) := (blk_cell BK208.out 0).trans rfl; have hcz17_1 : w16.cell? ⟨gb208, 1, none⟩ = some (.int .i64 a1_1) := (blk_cell BK208.out 1).trans rfl; have hcz17_2 : w16.cell? ⟨gb208, 2, none⟩ = some (.int .i64 a1_2) := (blk_cell BK208.out 2).trans rfl; have hcz17_3 : w16.cell? ⟨gb208, 3, none⟩ = some (.slice A1_3 l1_3.length c1_3) := (blk_cell BK208.out 3).trans rfl; have hcz17_4 : w16.cell? ⟨gb208, 4, none⟩ = some (.slice A1_4 l1_4.length c1_4) := (blk_cell BK208.out 4).trans rfl; have hfz17_0 := blk_frozen BK208.out 0; have hfz17_1 := blk_frozen BK208.out 1; have hfz17_2 := blk_frozen BK208.out 2; have hfz17_3 := blk_frozen BK208.out 3; have hfz17_4 := blk_frozen BK208.out 4) | ((with_reducible refine gate_callee (f := 11) rfl ?_); refine goesL_ (some 21) rfl rfl Try.func11 (by kernel_rfl) rfl #[.agg #[.int .i64 a1_0, .int .i64 a1_1, .int .i64 a1_2, .slice A1_3 l1_3.length c1_3, .slice A1_4 l1_4.length c1_4], .int .i64 t209] rfl (by (try simp only [List.map_toArray, List.map_cons, List.map_nil]); first | done | rfl) ?_; (with_reducible refine (laws_szPattern.calls a1_0 a1_1 a1_2 _ _ l1_3 _ _ l1_4 t209 t210 _ ?side1 ?side2 ?side3 ?side4 A10.out).mono ?_); (case side1 => exact (Kd.C_below HR1_3.out HB.out)); (case side2 => exact HC1_3.out); (case side3 => exact (Kd.C_below HR1_4.out HB.out)); (case side4 => exact HC1_4.out); rintro e w18 ⟨rfl, hb⟩; refine ⟨_, rfl, ?_⟩; replace BK207 := Aside0.mk (blk_below BK207.out hb); replace BK208 := Aside0.mk (blk_below BK208.out hb); replace HB := Aside0.mk (below_step HB.out hb); (try clear hb); (try clear hb2); (try clear hk); (try clear hi)))
  go_ret
  exact ⟨by first | rfl | (simp [errW_none, errW_some] <;> rfl) | (simp [*, errW_none, errW_some] <;> rfl), by repeat (first | (with_reducible first | exact HB.out | apply below_alloc | apply pw_below_drewN | apply below_drew1 | refine below_set ?_ GE207.out | refine below_set ?_ GE208.out) | exact HB.out)⟩
 rw [if_pos c4] at H
 have c4b0 : decide (t209 < 0) = true := decide_eq_true c4
 clear c4
 clear H
 go_enter Try.func9, Try.ntmps9
 go_wp2_with (first | ((with_reducible refine gate_dst (N := 2) rfl ?_); refine box_event ?hg (N := 2) ?hd (cs := #[.int .i64 a0_0, .int .i64 a0_1, .int .i64 a0_2, .slice A0_3 l0_3.length c0_3, .slice A0_4 l0_4.length c0_4]) (t := 24) ?hr ?_; (case hd => rfl); (case hg => rfl); (case hr => first | (go_simp; done) | (go_simp; rfl)); intro gb207 hg w5 hbox hb; have BK207 := Aside0.mk (hbox); have GW207 := Aside0.mk ((by rw [hg]; exact (below_size HB.out) : w.heap.size ≤ gb207)); have GE207 := Aside0.mk ((by rw [hg]; exact (below_size HB.out) : w.heap.size ≤ gb207)); replace HB := Aside0.mk (below_step HB.out hb); clear hb hbox hg) | ((with_reducible refine gate_dst (N := 3) rfl ?_); refine box_event ?hg (N := 3) ?hd (cs := #[.int .i64 a1_0, .int .i64 a1_1, .int .i64 a1_2, .slice A1_3 l1_3.length c1_3, .slice A1_4 l1_4.length c1_4]) (t := 24) ?hr ?_; (case hd => rfl); (case hg => rfl); (case hr => first | (go_simp; done) | (go_simp; rfl)); intro gb208 hg w6 hbox hb; have BK208 := Aside0.mk (hbox); have GW208 := Aside0.mk ((by rw [hg]; exact (below_size HB.out) : w.heap.size ≤ gb208)); have GE208 := Aside0.mk ((by rw [hg]; exact (below_size HB.out) : w.heap.size ≤ gb208)); replace HB := Aside0.mk (below_step HB.out hb); have NB207_208 := Aside0.mk ((by rw [hg]; exact Nat.ne_of_lt (blk_lt BK207.out) : gb207 ≠ gb208)); have NB208_207 := Aside0.mk ((by rw [hg]; exact Nat.ne_of_gt (blk_lt BK207.out) : gb208 ≠ gb207)); replace BK207 := Aside0.mk (blk_below BK207.out hb); clear hb hbox hg; have hnb7 := NB207_208.out; have hnc7 := NB208_207.out; have hcz8_0 : w6.cell? ⟨gb207, 0, none⟩ = some (.int .i64 a0_0) := (blk_cell BK207.out 0).trans rfl; have hcz8_1 : w6.cell? ⟨gb207, 1, none⟩ = some (.int .i64 a0_1) := (blk_cell BK207.out 1).trans rfl; have hcz8_2 : w6.cell? ⟨gb207, 2, none⟩ = some (.int .i64 a0_2) := (blk_cell BK207.out 2).trans rfl; have hcz8_3 : w6.cell? ⟨gb207, 3, none⟩ = some (.slice A0_3 l0_3.length c0_3) := (blk_cell BK207.out 3).trans rfl; have hcz8_4 : w6.cell? ⟨gb207, 4, none⟩ = some (.slice A0_4 l0_4.length c0_4) := (blk_cell BK207.out 4).trans rfl; have hfz8_0 := blk_frozen BK207.out 0; have hfz8_1 := blk_frozen BK207.out 1; have hfz8_2 := blk_frozen BK207.out 2; have hfz8_3 := blk_frozen BK207.out 3; have hfz8_4 := blk_frozen BK207.out 4) | ((with_reducible refine gate_callee (f := 11) rfl ?_); refine goesL_ (some 16) rfl rfl Try.func11 (by kernel_rfl) rfl #[.agg #[.int .i64 a0_0, .int .i64 a0_1, .int .i64 a0_2, .slice A0_3 l0_3.length c0_3, .slice A0_4 l0_4.length c0_4], .int .i64 1048576] rfl (by (try simp only [List.map_toArray, List.map_cons, List.map_nil]); first | done | rfl) ?_; (with_reducible refine (laws_szPattern.calls a0_0 a0_1 a0_2 _ _ l0_3 _ _ l0_4 1048576 t209 _ ?side1 ?side2 ?side3 ?side4 A3.out).mono ?_); (case side1 => exact (Kd.C_below HR0_3.out HB.out)); (case side2 => exact HC0_3.out); (case side3 => exact (Kd.C_below HR0_4.out HB.out)); (case side4 => exact HC0_4.out); rintro e w9 ⟨rfl, hb⟩; refine ⟨_, rfl, ?_⟩; replace BK207 := Aside0.mk (blk_below BK207.out hb); replace BK208 := Aside0.mk (blk_below BK208.out hb); replace HB := Aside0.mk (below_step HB.out hb); (try clear hb); (try clear hb2); (try clear hk); (try clear hi)))
 go_ret
 exact ⟨by first | rfl | (simp [errW_none, errW_some] <;> rfl) | (simp [*, errW_none, errW_some] <;> rfl), by repeat (first | (with_reducible first | exact HB.out | apply below_alloc | apply pw_below_drewN | apply below_drew1 | refine below_set ?_ GE207.out | refine below_set ?_ GE208.out) | exact HB.out)⟩
end Go.Proofs.Ytgjhlkjfdlkndaa.PFnExactBoth
