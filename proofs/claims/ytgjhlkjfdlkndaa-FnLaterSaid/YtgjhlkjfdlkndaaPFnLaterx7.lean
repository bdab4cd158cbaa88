-- Written by a program of this session (wip/tools/fltprint.py: the kit's printer, taught more).
import Derived.Test.YtgjhlkjfdlkndaaPFnLaterx0
import Derived.Test.YtgjhlkjfdlkndaaPFnLaterx1
import Derived.Test.YtgjhlkjfdlkndaaPFnLaterx6
namespace Go.Proofs.Ytgjhlkjfdlkndaa.PFnLater
open Go.RowKit Go.Proofs.YtgjhlkjfdlkndaaW.PrintWords Go.Proofs.YtgjhlkjfdlkndaaW.PrintLast Go.Proofs.YtgjhlkjfdlkndaaW.PrintMore
attribute [local go_sem] max2_int min2_int max_two min_two max_three min_three max_four min_four   -- for this text's walks alone
set_option linter.unusedVariables false
set_option linter.unusedSimpArgs false

/-! ### spec_l01DrawRight: function 49 -/
mutual
def spec_l01DrawRight.l0 : Nat → Int → List Int → Int → Int → Int → Int → Int → List Int → List Int → Option (Int × Int × Int × List Int × List Int × Int × Int)
 | 0, _, _, _, _, _, _, _, _, _ => none
 | k + 1, x5, x1000, x1001, x1002, x195000, x195001, x195002, x195003, x195004 => if x5 ≤ x195002 then ((spec_l01Once.f x1000 x1001 x1002 9).bind fun bt195 => (if bt195.1 = true then ((spec_l01Week.f x195000 x5).bind fun t198 => (if t198 = true then (spec_l01DrawRight.j1 k x5 (decide ((x195003.length : Int) < 20)) x1000 bt195.2.1 bt195.2.2 x195000 x195001 x195002 x195003 x195004) else (spec_l01DrawRight.j1 k x5 false x1000 bt195.2.1 bt195.2.2 x195000 x195001 x195002 x195003 x195004))) else (spec_l01DrawRight.l0 k (wrap64 (x5 + 1)) x1000 bt195.2.1 bt195.2.2 x195000 x195001 x195002 x195003 x195004))) else (some (x195000, x195001, x195002, x195003, x195004, x1001, x1002))
def spec_l01DrawRight.j1 : Nat → Int → Bool → List Int → Int → Int → Int → Int → Int → List Int → List Int → Option (Int × Int × Int × List Int × List Int × Int × Int)
 | 0, _, _, _, _, _, _, _, _, _, _ => none
 | k + 1, x5, x35, x1000, x1001, x1002, x195000, x195001, x195002, x195003, x195004 => if x35 = true then (if x195003.length < 17592186044416 then ((some (x195003 ++ [x5] : List Int)).bind fun y199 => ((spec_l01Week.f x195000 x5).bind fun t202 => (if t202 = true then (spec_l01DrawRight.l0 k (wrap64 (x5 + 1)) x1000 x1001 x1002 x195000 x195001 x195002 y199 x195004) else (if (x195004.length : Int) < 20 then (if x195004.length < 17592186044416 then (spec_l01DrawRight.l0 k (wrap64 (x5 + 1)) x1000 x1001 x1002 x195000 x195001 x195002 y199 (x195004 ++ [x5])) else (none)) else (spec_l01DrawRight.l0 k (wrap64 (x5 + 1)) x1000 x1001 x1002 x195000 x195001 x195002 y199 x195004))))) else (none)) else ((spec_l01Week.f x195000 x5).bind fun t206 => (if t206 = true then (spec_l01DrawRight.l0 k (wrap64 (x5 + 1)) x1000 x1001 x1002 x195000 x195001 x195002 x195003 x195004) else (if (x195004.length : Int) < 20 then (if x195004.length < 17592186044416 then (spec_l01DrawRight.l0 k (wrap64 (x5 + 1)) x1000 x1001 x1002 x195000 x195001 x195002 x195003 (x195004 ++ [x5])) else (none)) else (spec_l01DrawRight.l0 k (wrap64 (x5 + 1)) x1000 x1001 x1002 x195000 x195001 x195002 x195003 x195004))))
end
def spec_l01DrawRight.f (k : Nat) (s0_0 : List Int) (s0_1 : Int) (s0_2 : Int) : Option (Int × Int × Int × List Int × List Int × Int × Int) := (spec_l01Below.f s0_0 s0_1 s0_2 60).bind fun bt185 => ((spec_l01Below.f s0_0 bt185.2.1 bt185.2.2 128).bind fun bt188 => ((spec_l01Below.f s0_0 bt188.2.1 bt188.2.2 80).bind fun bt191 => (spec_l01DrawRight.l0 k bt185.1 s0_0 bt191.2.1 bt191.2.2 bt188.1 bt185.1 (wrap64 (bt185.1 + bt191.1)) ([] : List Int) ([] : List Int))))
theorem spec_l01DrawRight.mono_l : ∀ k, (∀ y0 y1 y2 y3 y4 y5 y6 y7 y8, LeO (spec_l01DrawRight.l0 k y0 y1 y2 y3 y4 y5 y6 y7 y8) (spec_l01DrawRight.l0 (k + 1) y0 y1 y2 y3 y4 y5 y6 y7 y8)) ∧ (∀ y0 y1 y2 y3 y4 y5 y6 y7 y8 y9, LeO (spec_l01DrawRight.j1 k y0 y1 y2 y3 y4 y5 y6 y7 y8 y9) (spec_l01DrawRight.j1 (k + 1) y0 y1 y2 y3 y4 y5 y6 y7 y8 y9))
 | 0 => ⟨fun _ _ _ _ _ _ _ _ _ r h => by simp [spec_l01DrawRight.l0] at h, fun _ _ _ _ _ _ _ _ _ _ r h => by simp [spec_l01DrawRight.j1] at h⟩
 | k + 1 => by
  obtain ⟨ih0, ih1⟩ := spec_l01DrawRight.mono_l k
  refine ⟨?_, ?_⟩
  ·intro y0 y1 y2 y3 y4 y5 y6 y7 y8
   unfold spec_l01DrawRight.l0
   repeat' first
   | (with_reducible exact ih0 _ _ _ _ _ _ _ _ _)
   | (with_reducible exact ih1 _ _ _ _ _ _ _ _ _ _)
   | (with_reducible exact LeO.refl _)
   | (with_reducible exact LeO.none _)
   | (with_reducible refine LeO.ite ?_ ?_)
   | (with_reducible refine LeO.bind ?_ (fun _ => ?_))
   | exact ih0 _ _ _ _ _ _ _ _ _
   | exact ih1 _ _ _ _ _ _ _ _ _ _
   | exact LeO.none _
   | refine LeO.ite ?_ ?_
   | refine LeO.bind ?_ (fun _ => ?_)
  ·intro y0 y1 y2 y3 y4 y5 y6 y7 y8 y9
   unfold spec_l01DrawRight.j1
   repeat' first
   | (with_reducible exact ih0 _ _ _ _ _ _ _ _ _)
   | (with_reducible exact ih1 _ _ _ _ _ _ _ _ _ _)
   | (with_reducible exact LeO.refl _)
   | (with_reducible exact LeO.none _)
   | (with_reducible refine LeO.ite ?_ ?_)
   | (with_reducible refine LeO.bind ?_ (fun _ => ?_))
   | exact ih0 _ _ _ _ _ _ _ _ _
   | exact ih1 _ _ _ _ _ _ _ _ _ _
   | exact LeO.none _
   | refine LeO.ite ?_ ?_
   | refine LeO.bind ?_ (fun _ => ?_)
theorem spec_l01DrawRight.mono : ∀ a0 a1 a2 k, LeO (spec_l01DrawRight.f k a0 a1 a2) (spec_l01DrawRight.f (k + 1) a0 a1 a2) := by
 intro a0 a1 a2 k
 obtain ⟨ih0, ih1⟩ := spec_l01DrawRight.mono_l k
 unfold spec_l01DrawRight.f
 repeat' first
   | (with_reducible exact ih0 _ _ _ _ _ _ _ _ _)
   | (with_reducible exact ih1 _ _ _ _ _ _ _ _ _ _)
   | (with_reducible exact LeO.refl _)
   | (with_reducible exact LeO.none _)
   | (with_reducible refine LeO.ite ?_ ?_)
   | (with_reducible refine LeO.bind ?_ (fun _ => ?_))
   | exact ih0 _ _ _ _ _ _ _ _ _
   | exact ih1 _ _ _ _ _ _ _ _ _ _
   | exact LeO.none _
   | refine LeO.ite ?_ ?_
   | refine LeO.bind ?_ (fun _ => ?_)
set_option maxHeartbeats 8000000 in
set_option maxRecDepth 100000 in
theorem spec_l01DrawRight.calls (k : Nat) (g : Nat) (s0_0 : List Int) (s0_1 : Int) (s0_2 : Int) (r1 : Int) (r2 : Int) (r3 : Int) (r4 : List Int) (r5 : List Int) (r6 : Int) (r7 : Int) (w0 w : World) (hI : IsS60 w0 w g s0_0 s0_1 s0_2) (hB : Below w0.heap.size w0 w) (h : spec_l01DrawRight.f k s0_0 s0_1 s0_2 = some (r1, r2, r3, r4, r5, r6, r7)) :
  Calls Try.prog 49 #[.pointer (some ⟨g, 0, none⟩)] w fun e w' => ∃ v3_ v4_ : Value, e = .returned (.agg #[.int .i64 r1, .int .i64 r2, .int .i64 r3, v3_, v4_]) ∧ Kd.R (Kd.int .i64) 3 w' w.heap.size (fun k_ => some k_ ≠ (v4_ : Value).ownBlock) v3_ r4 ∧ Kd.R (Kd.int .i64) 3 w' w.heap.size (fun k_ => some k_ ≠ (v3_ : Value).ownBlock) v4_ r5 ∧ IsS60 w0 w' g s0_0 r6 r7 ∧ Below w0.heap.size w0 w' ∧ KeepBut w w' g none := by
 have hu27 := Try.underlying27
 have HI0 := Aside0.mk hI
 have HK := Aside0.mk (KeepBut.refl w g none)
 have HL := Aside0.mk hB.size
 clear hI
 have HW0 := Aside0.mk hB.size
 have HB := Aside0.mk hB
 clear hB
 have H : ((spec_l01Below.f s0_0 s0_1 s0_2 60).bind fun bt185 => ((spec_l01Below.f s0_0 bt185.2.1 bt185.2.2 128).bind fun bt188 => ((spec_l01Below.f s0_0 bt188.2.1 bt188.2.2 80).bind fun bt191 => (spec_l01DrawRight.l0 k bt185.1 s0_0 bt191.2.1 bt191.2.2 bt188.1 bt185.1 (wrap64 (bt185.1 + bt191.1)) ([] : List Int) ([] : List Int))))) = some (r1, r2, r3, r4, r5, r6, r7) := h
 clear h
 replace H := Option.bind_eq_some_iff.mp H
 obtain ⟨⟨t185, t186, t187⟩, A20, H⟩ := H
 replace H : ((spec_l01Below.f s0_0 t186 t187 128).bind fun bt188 => ((spec_l01Below.f s0_0 bt188.2.1 bt188.2.2 80).bind fun bt191 => (spec_l01DrawRight.l0 k t185 s0_0 bt191.2.1 bt191.2.2 bt188.1 t185 (wrap64 (t185 + bt191.1)) ([] : List Int) ([] : List Int)))) = some (r1, r2, r3, r4, r5, r6, r7) := H
 have A2 := Aside0.mk A20
 clear A20
 replace H := Option.bind_eq_some_iff.mp H
 obtain ⟨⟨t188, t189, t190⟩, A30, H⟩ := H
 replace H : ((spec_l01Below.f s0_0 t189 t190 80).bind fun bt191 => (spec_l01DrawRight.l0 k t185 s0_0 bt191.2.1 bt191.2.2 t188 t185 (wrap64 (t185 + bt191.1)) ([] : List Int) ([] : List Int))) = some (r1, r2, r3, r4, r5, r6, r7) := H
 have A3 := Aside0.mk A30
 clear A30
 replace H := Option.bind_eq_some_iff.mp H
 obtain ⟨⟨t191, t192, t193⟩, A40, H⟩ := H
 replace H : (spec_l01DrawRight.l0 k t185 s0_0 t192 t193 t188 t185 (wrap64 (t185 + t191)) ([] : List Int) ([] : List Int)) = some (r1, r2, r3, r4, r5, r6, r7) := H
 have A4 := Aside0.mk A40
 clear A40
 have H' := Aside0.mk H
 clear H
 go_enter Try.func49, Try.ntmps49
 go_wp2_with (first | ((with_reducible refine gate_dst (N := 2) rfl ?_); (try (refine gate_guard (by rfl) ?_; dsimp only)); refine box_event ?hg (N := 2) ?hd (cs := #[.int .i64 0, .int .i64 0, .int .i64 0, .slice none 0 0, .slice none 0 0]) (t := 27) ?hr ?_; (case hd => rfl); (case hg => rfl); (case hr => first | (go_simp; done) | (go_simp; rfl)); intro gb184 hg w5 hbox hb; have n0_ := Aside0.mk (IsS60.below (by repeat (first | (with_reducible first | exact HI0.out | apply IsS60.alloc | apply IsS60.drewN | apply IsS60.drew | apply IsS60.set_1 | apply IsS60.set_2) | exact HI0.out)) hb); have n1_ := Aside0.mk (KeepBut.trans (by repeat (first | (with_reducible first | exact HK.out | apply KeepBut.set_ | apply keep_drewN | apply keep_drew | apply keep_alloc) | exact HK.out)) (KeepBut.of_below hb g none) (.inl rfl)); have n2_ := Aside0.mk (below_step (by repeat (first | (with_reducible first | exact HB.out | apply below_alloc | apply pw_below_drewN | apply below_drew1 | refine below_set ?_ (IsS60.ge HI0.out)) | exact HB.out)) hb); have n3_ := Aside0.mk (hbox); have n4_ := Aside0.mk ((by rw [hg]; exact (keep_size (w := w) (g := g) (row := none) (by repeat (first | (with_reducible first | exact HK.out | apply KeepBut.set_ | apply keep_drewN | apply keep_drew | apply keep_alloc) | exact HK.out))) : w.heap.size ≤ gb184)); have n5_ := Aside0.mk ((Nat.le_trans HW0.out (by rw [hg]; exact (keep_size (w := w) (g := g) (row := none) (by repeat (first | (with_reducible first | exact HK.out | apply KeepBut.set_ | apply keep_drewN | apply keep_drew | apply keep_alloc) | exact HK.out))) : w.heap.size ≤ gb184) : w0.heap.size ≤ gb184)); have n6_ := Aside0.mk ((by rw [hg]; exact Nat.ne_of_lt (IsS60.lt (show IsS60 w0 _ g s0_0 s0_1 s0_2 from by repeat (first | (with_reducible first | exact HI0.out | apply IsS60.alloc | apply IsS60.drewN | apply IsS60.drew | apply IsS60.set_1 | apply IsS60.set_2) | exact HI0.out))) : g ≠ gb184)); have n7_ := Aside0.mk ((by rw [hg]; exact Nat.ne_of_gt (IsS60.lt (show IsS60 w0 _ g s0_0 s0_1 s0_2 from by repeat (first | (with_reducible first | exact HI0.out | apply IsS60.alloc | apply IsS60.drewN | apply IsS60.drew | apply IsS60.set_1 | apply IsS60.set_2) | exact HI0.out))) : gb184 ≠ g)); clear HI0; clear HK; clear HB; have HI0 := n0_; have HK := n1_; have HB := n2_; have BK184 := n3_; have GW184 := n4_; have GE184 := n5_; have NB0_184 := n6_; have NB184_0 := n7_; clear n0_ n1_ n2_ n3_ n4_ n5_ n6_ n7_; clear hb hbox hg) | ((with_reducible refine gate_callee (f := 55) rfl ?_); refine goesL_ (some 7) rfl rfl Try.func55 (by kernel_rfl) rfl #[.pointer (some ⟨g, 0, none⟩), .int .i64 60] rfl (by (try simp only [List.map_toArray, List.map_cons, List.map_nil]); first | done | rfl | (simp only [List.length_drop, List.length_take]; rfl)) ?_; (with_reducible refine (spec_l01Below.calls g s0_0 s0_1 s0_2 60 t185 t186 t187 w0 _ ?side1 ?side2 A2.out).mono ?_); (case side1 => repeat (first | (with_reducible first | exact HI0.out | apply IsS60.alloc | apply IsS60.drewN | apply IsS60.drew | apply IsS60.set_1 | apply IsS60.set_2 | refine IsS60.far ?_ NB0_184.out _) | exact HI0.out)); (case side2 => repeat (first | (with_reducible first | exact HB.out | apply below_alloc | apply pw_below_drewN | apply below_drew1 | refine below_set ?_ (IsS60.ge HI0.out) | refine below_set ?_ GE184.out) | exact HB.out)); rintro e w6 ⟨rfl, hi, hb, hk⟩; refine ⟨_, rfl, ?_⟩; have n0_ := Aside0.mk (KeepBut.blk hk (g' := gb184) (o := .cells #[.int .i64 0, .int .i64 0, .int .i64 0, .slice none 0 0, .slice none 0 0] 27 (0, 0)) (by (with_reducible repeat (first | refine blk_drewN ?_ _ | refine blk_drew ?_ | refine blk_alloc ?_ _)); exact BK184.out) NB184_0.out (by simp)); have n1_ := Aside0.mk (KeepBut.trans (by repeat (first | (with_reducible first | exact HK.out | apply KeepBut.set_ | apply keep_drewN | apply keep_drew | apply keep_alloc | refine keep_far ?_ GW184.out _) | exact HK.out)) hk (.inl rfl)); have n2_ := Aside0.mk (hb); have n3_ := Aside0.mk (hi); clear BK184; clear HK; clear HB; clear HI0; have BK184 := n0_; have HK := n1_; have HB := n2_; have HI0 := n3_; clear n0_ n1_ n2_ n3_; (try clear hb); (try clear hb2); (try clear hk); (try clear hi)) | ((with_reducible refine gate_callee (f := 55) rfl ?_); refine goesL_ (some 9) rfl rfl Try.func55 (by kernel_rfl) rfl #[.pointer (some ⟨g, 0, none⟩), .int .i64 128] rfl (by (try simp only [List.map_toArray, List.map_cons, List.map_nil]); first | done | rfl | (simp only [List.length_drop, List.length_take]; rfl)) ?_; (with_reducible refine (spec_l01Below.calls g s0_0 t186 t187 128 t188 t189 t190 w0 _ ?side1 ?side2 A3.out).mono ?_); (case side1 => repeat (first | (with_reducible first | exact HI0.out | apply IsS60.alloc | apply IsS60.drewN | apply IsS60.drew | apply IsS60.set_1 | apply IsS60.set_2 | refine IsS60.far ?_ NB0_184.out _) | exact HI0.out)); (case side2 => repeat (first | (with_reducible first | exact HB.out | apply below_alloc | apply pw_below_drewN | apply below_drew1 | refine below_set ?_ (IsS60.ge HI0.out) | refine below_set ?_ GE184.out) | exact HB.out)); rintro e w7 ⟨rfl, hi, hb, hk⟩; refine ⟨_, rfl, ?_⟩; have n0_ := Aside0.mk (KeepBut.blk hk (g' := gb184) (o := .cells #[.int .i64 0, .int .i64 0, .int .i64 0, .slice none 0 0, .slice none 0 0] 27 (0, 0)) (by (with_reducible repeat (first | refine blk_drewN ?_ _ | refine blk_drew ?_ | refine blk_alloc ?_ _)); exact BK184.out) NB184_0.out (by simp)); have n1_ := Aside0.mk (KeepBut.trans (by repeat (first | (with_reducible first | exact HK.out | apply KeepBut.set_ | apply keep_drewN | apply keep_drew | apply keep_alloc | refine keep_far ?_ GW184.out _) | exact HK.out)) hk (.inl rfl)); have n2_ := Aside0.mk (hb); have n3_ := Aside0.mk (hi); clear BK184; clear HK; clear HB; clear HI0; have BK184 := n0_; have HK := n1_; have HB := n2_; have HI0 := n3_; clear n0_ n1_ n2_ n3_; (try clear hb); (try clear hb2); (try clear hk); (try clear hi)) | ((with_reducible refine gate_callee (f := 55) rfl ?_); refine goesL_ (some 13) rfl rfl Try.func55 (by kernel_rfl) rfl #[.pointer (some ⟨g, 0, none⟩), .int .i64 80] rfl (by (try simp only [List.map_toArray, List.map_cons, List.map_nil]); first | done | rfl | (simp only [List.length_drop, List.length_take]; rfl)) ?_; (with_reducible refine (spec_l01Below.calls g s0_0 t189 t190 80 t191 t192 t193 w0 _ ?side1 ?side2 A4.out).mono ?_); (case side1 => repeat (first | (with_reducible first | exact HI0.out | apply IsS60.alloc | apply IsS60.drewN | apply IsS60.drew | apply IsS60.set_1 | apply IsS60.set_2 | refine IsS60.far ?_ NB0_184.out _) | exact HI0.out)); (case side2 => repeat (first | (with_reducible first | exact HB.out | apply below_alloc | apply pw_below_drewN | apply below_drew1 | refine below_set ?_ (IsS60.ge HI0.out) | refine below_set ?_ GE184.out) | exact HB.out)); rintro e w8 ⟨rfl, hi, hb, hk⟩; refine ⟨_, rfl, ?_⟩; have n0_ := Aside0.mk (KeepBut.blk hk (g' := gb184) (o := .cells #[.int .i64 0, .int .i64 0, .int .i64 0, .slice none 0 0, .slice none 0 0] 27 (0, 0)) (by (with_reducible repeat (first | refine blk_drewN ?_ _ | refine blk_drew ?_ | refine blk_alloc ?_ _)); exact BK184.out) NB184_0.out (by simp)); have n1_ := Aside0.mk (KeepBut.trans (by repeat (first | (with_reducible first | exact HK.out | apply KeepBut.set_ | apply keep_drewN | apply keep_drew | apply keep_alloc | refine keep_far ?_ GW184.out _) | exact HK.out)) hk (.inl rfl)); have n2_ := Aside0.mk (hb); have n3_ := Aside0.mk (hi); clear BK184; clear HK; clear HB; clear HI0; have BK184 := n0_; have HK := n1_; have HB := n2_; have HI0 := n3_; clear n0_ n1_ n2_ n3_; (try clear hb); (try clear hb2); (try clear hk); (try clear hi)) | ((with_reducible refine gate_dst (N := 4) rfl ?_); (try (refine gate_guard (by rfl) ?_; dsimp only)); refine box_event ?hg (N := 4) ?hd (cs := #[.int .i64 0, .int .i64 0, .int .i64 0, .slice none 0 0, .slice none 0 0]) (t := 27) ?hr ?_; (case hd => rfl); (case hg => rfl); (case hr => first | (go_simp; done) | (go_simp; rfl)); intro gb194 hg w9 hbox hb; have n0_ := Aside0.mk (IsS60.below (by repeat (first | (with_reducible first | exact HI0.out | apply IsS60.alloc | apply IsS60.drewN | apply IsS60.drew | apply IsS60.set_1 | apply IsS60.set_2 | refine IsS60.far ?_ NB0_184.out _) | exact HI0.out)) hb); have n1_ := Aside0.mk (blk_below (g := gb184) (o := .cells #[.int .i64 0, .int .i64 0, .int .i64 0, .slice none 0 0, .slice none 0 0] 27 (0, 0)) (by (with_reducible repeat (first | refine blk_drewN ?_ _ | refine blk_drew ?_ | refine blk_alloc ?_ _)); exact BK184.out) hb); have n2_ := Aside0.mk (KeepBut.trans (by repeat (first | (with_reducible first | exact HK.out | apply KeepBut.set_ | apply keep_drewN | apply keep_drew | apply keep_alloc | refine keep_far ?_ GW184.out _) | exact HK.out)) (KeepBut.of_below hb g none) (.inl rfl)); have n3_ := Aside0.mk (below_step (by repeat (first | (with_reducible first | exact HB.out | apply below_alloc | apply pw_below_drewN | apply below_drew1 | refine below_set ?_ (IsS60.ge HI0.out) | refine below_set ?_ GE184.out) | exact HB.out)) hb); have n4_ := Aside0.mk (hbox); have n5_ := Aside0.mk ((by rw [hg]; exact (keep_size (w := w) (g := g) (row := none) (by repeat (first | (with_reducible first | exact HK.out | apply KeepBut.set_ | apply keep_drewN | apply keep_drew | apply keep_alloc | refine keep_far ?_ GW184.out _) | exact HK.out))) : w.heap.size ≤ gb194)); have n6_ := Aside0.mk ((Nat.le_trans HW0.out (by rw [hg]; exact (keep_size (w := w) (g := g) (row := none) (by repeat (first | (with_reducible first | exact HK.out | apply KeepBut.set_ | apply keep_drewN | apply keep_drew | apply keep_alloc | refine keep_far ?_ GW184.out _) | exact HK.out))) : w.heap.size ≤ gb194) : w0.heap.size ≤ gb194)); have n7_ := Aside0.mk ((by rw [hg]; exact Nat.ne_of_lt (blk_lt (g := gb184) (o := .cells #[.int .i64 0, .int .i64 0, .int .i64 0, .slice none 0 0, .slice none 0 0] 27 (0, 0)) (by (with_reducible repeat (first | refine blk_drewN ?_ _ | refine blk_drew ?_ | refine blk_alloc ?_ _)); exact BK184.out)) : gb184 ≠ gb194)); have n8_ := Aside0.mk ((by rw [hg]; exact Nat.ne_of_gt (blk_lt (g := gb184) (o := .cells #[.int .i64 0, .int .i64 0, .int .i64 0, .slice none 0 0, .slice none 0 0] 27 (0, 0)) (by (with_reducible repeat (first | refine blk_drewN ?_ _ | refine blk_drew ?_ | refine blk_alloc ?_ _)); exact BK184.out)) : gb194 ≠ gb184)); have n9_ := Aside0.mk ((by rw [hg]; exact Nat.ne_of_lt (IsS60.lt (show IsS60 w0 _ g s0_0 t192 t193 from by repeat (first | (with_reducible first | exact HI0.out | apply IsS60.alloc | apply IsS60.drewN | apply IsS60.drew | apply IsS60.set_1 | apply IsS60.set_2 | refine IsS60.far ?_ NB0_184.out _) | exact HI0.out))) : g ≠ gb194)); have n10_ := Aside0.mk ((by rw [hg]; exact Nat.ne_of_gt (IsS60.lt (show IsS60 w0 _ g s0_0 t192 t193 from by repeat (first | (with_reducible first | exact HI0.out | apply IsS60.alloc | apply IsS60.drewN | apply IsS60.drew | apply IsS60.set_1 | apply IsS60.set_2 | refine IsS60.far ?_ NB0_184.out _) | exact HI0.out))) : gb194 ≠ g)); clear HI0; clear BK184; clear HK; clear HB; have HI0 := n0_; have BK184 := n1_; have HK := n2_; have HB := n3_; have BK194 := n4_; have GW194 := n5_; have GE194 := n6_; have NB184_194 := n7_; have NB194_184 := n8_; have NB0_194 := n9_; have NB194_0 := n10_; clear n0_ n1_ n2_ n3_ n4_ n5_ n6_ n7_ n8_ n9_ n10_; clear hb hbox hg; have hnb10 := NB194_184.out; have hnc10 := NB184_194.out; have hnb11 := NB194_0.out; have hnc11 := NB0_194.out; have hcz12_0 : w9.cell? ⟨gb194, 0, none⟩ = some (.int .i64 0) := (blk_cell BK194.out 0).trans rfl; have hcz12_1 : w9.cell? ⟨gb194, 1, none⟩ = some (.int .i64 0) := (blk_cell BK194.out 1).trans rfl; have hcz12_2 : w9.cell? ⟨gb194, 2, none⟩ = some (.int .i64 0) := (blk_cell BK194.out 2).trans rfl; have hcz12_3 : w9.cell? ⟨gb194, 3, none⟩ = some (.slice none 0 0) := (blk_cell BK194.out 3).trans rfl; have hcz12_4 : w9.cell? ⟨gb194, 4, none⟩ = some (.slice none 0 0) := (blk_cell BK194.out 4).trans rfl; have hfz12_0 := blk_frozen BK194.out 0; have hfz12_1 := blk_frozen BK194.out 1; have hfz12_2 := blk_frozen BK194.out 2; have hfz12_3 := blk_frozen BK194.out 3; have hfz12_4 := blk_frozen BK194.out 4))
 go_loopg [5] k (fun kq v5 w' => ∃ (x5_1 : Int) (x1001_1 : Int) (x1002_1 : Int) (x195003_1 : List Int) (x195004_1 : List Int) (u195003 : Value) (u195004 : Value), v5 = .int .i64 x5_1 ∧ Aside0 (spec_l01DrawRight.l0 kq x5_1 s0_0 x1001_1 x1002_1 t188 t185 (wrap64 (t185 + t191)) x195003_1 x195004_1 = some (r1, r2, r3, r4, r5, r6, r7)) ∧ Aside0 (kq ≤ k) ∧ Aside0 (Kd.R (Kd.int .i64) 3 w' w.heap.size (fun k_ => some k_ ≠ (u195004 : Value).ownBlock) u195003 x195003_1) ∧ Aside0 (Kd.R (Kd.int .i64) 3 w' w.heap.size (fun k_ => some k_ ≠ (u195003 : Value).ownBlock) u195004 x195004_1) ∧ Aside0 (w'.heap[gb184]? = some (.cells #[.int .i64 0, .int .i64 0, .int .i64 0, (.slice none 0 0), (.slice none 0 0)] 27 (0, 0))) ∧ Aside0 (w'.heap[gb194]? = some (.cells #[.int .i64 t188, .int .i64 t185, .int .i64 (wrap64 (t185 + t191)), u195003, u195004] 27 (0, 0))) ∧ Aside0 (IsS60 w0 w' g s0_0 x1001_1 x1002_1) ∧ Aside0 (KeepBut w w' g none) ∧ Aside0 (Below w0.heap.size w0 w'))
 case atStart => exact ⟨(t185), (t192), (t193), (([] : List Int)), (([] : List Int)), (.slice none 0 0), (.slice none 0 0), (by first | rfl | (simp; done) | (simp [*]; done)), H', ⟨Nat.le_refl _⟩, ⟨by first | exact Kd.R_nil _ _ _ _ _ | exact Kd.N_nil _ _ _ _ _ | exact Kd.V_nil _ _ _ _ _ | exact Kd.Q_nil _ _ _ _ _ | exact Kd.S_nil _ _ _ _ _⟩, ⟨by first | exact Kd.R_nil _ _ _ _ _ | exact Kd.N_nil _ _ _ _ _ | exact Kd.V_nil _ _ _ _ _ | exact Kd.Q_nil _ _ _ _ _ | exact Kd.S_nil _ _ _ _ _⟩, ⟨by (with_reducible repeat (first | refine blk_drewN ?_ _ | refine blk_drew ?_ | refine blk_alloc ?_ _)); refine blk_far ?_ NB184_194.out _; (with_reducible repeat (first | refine blk_drewN ?_ _ | refine blk_drew ?_ | refine blk_alloc ?_ _)); refine blk_far ?_ NB184_194.out _; (with_reducible repeat (first | refine blk_drewN ?_ _ | refine blk_drew ?_ | refine blk_alloc ?_ _)); refine blk_far ?_ NB184_194.out _; (with_reducible repeat (first | refine blk_drewN ?_ _ | refine blk_drew ?_ | refine blk_alloc ?_ _)); refine blk_far ?_ NB184_194.out _; (with_reducible repeat (first | refine blk_drewN ?_ _ | refine blk_drew ?_ | refine blk_alloc ?_ _)); refine blk_far ?_ NB184_194.out _; (with_reducible repeat (first | refine blk_drewN ?_ _ | refine blk_drew ?_ | refine blk_alloc ?_ _)); exact BK184.out⟩, ⟨by (with_reducible repeat (first | refine blk_drewN ?_ _ | refine blk_drew ?_ | refine blk_alloc ?_ _)); refine blk_put (cs := #[.int .i64 t188, .int .i64 t185, .int .i64 (wrap64 (t185 + t191)), .slice none 0 0, .slice none 0 0]) ?_ 4 _ rfl; (with_reducible repeat (first | refine blk_drewN ?_ _ | refine blk_drew ?_ | refine blk_alloc ?_ _)); refine blk_put (cs := #[.int .i64 t188, .int .i64 t185, .int .i64 (wrap64 (t185 + t191)), .slice none 0 0, .slice none 0 0]) ?_ 3 _ rfl; (with_reducible repeat (first | refine blk_drewN ?_ _ | refine blk_drew ?_ | refine blk_alloc ?_ _)); refine blk_put (cs := #[.int .i64 t188, .int .i64 t185, .int .i64 0, .slice none 0 0, .slice none 0 0]) ?_ 2 _ rfl; (with_reducible repeat (first | refine blk_drewN ?_ _ | refine blk_drew ?_ | refine blk_alloc ?_ _)); refine blk_put (cs := #[.int .i64 t188, .int .i64 0, .int .i64 0, .slice none 0 0, .slice none 0 0]) ?_ 1 _ rfl; (with_reducible repeat (first | refine blk_drewN ?_ _ | refine blk_drew ?_ | refine blk_alloc ?_ _)); refine blk_put (cs := #[.int .i64 0, .int .i64 0, .int .i64 0, .slice none 0 0, .slice none 0 0]) ?_ 0 _ rfl; (with_reducible repeat (first | refine blk_drewN ?_ _ | refine blk_drew ?_ | refine blk_alloc ?_ _)); exact BK194.out⟩, ⟨by repeat (first | (with_reducible first | exact HI0.out | apply IsS60.alloc | apply IsS60.drewN | apply IsS60.drew | apply IsS60.set_1 | apply IsS60.set_2 | refine IsS60.far ?_ NB0_184.out _ | refine IsS60.far ?_ NB0_194.out _) | exact HI0.out)⟩, ⟨by repeat (first | (with_reducible first | exact HK.out | apply KeepBut.set_ | apply keep_drewN | apply keep_drew | apply keep_alloc | refine keep_far ?_ GW184.out _ | refine keep_far ?_ GW194.out _) | exact HK.out)⟩, ⟨by repeat (first | (with_reducible first | exact HB.out | apply below_alloc | apply pw_below_drewN | apply below_drew1 | refine below_set ?_ (IsS60.ge HI0.out) | refine below_set ?_ GE184.out | refine below_set ?_ GE194.out) | exact HB.out)⟩⟩
 case round =>
  clear H'
  try clear c1
  try clear p2
  try clear c4
  try clear c5
  try clear p6
  try clear c10
  try clear c11
  try clear hcz12_0
  try clear hcz12_1
  try clear hcz12_2
  try clear hcz12_3
  try clear hcz12_4
  try clear hfz12_0
  try clear hfz12_1
  try clear hfz12_2
  try clear hfz12_3
  try clear hfz12_4
  obtain ⟨x5_1, x1001_1, x1002_1, x195003_1, x195004_1, u195003, u195004, rfl, HA, HK1, HO_195003, HO_195004, BK184, BK194, HI0, HK, HB⟩ := hrel
  cases gk with
  | zero => exact absurd HA.out (by simp [spec_l01DrawRight.l0])
  | succ k1 =>
   have H := HA.out
   clear HA
   simp only [spec_l01DrawRight.l0] at H
   by_cases c13 : x5_1 ≤ (wrap64 (t185 + t191))
   ·rw [if_pos c13] at H
    have c13b0 : decide (x5_1 ≤ (wrap64 (t185 + t191))) = true := decide_eq_true c13
    clear c13
    replace H := Option.bind_eq_some_iff.mp H
    obtain ⟨⟨t195, t196, t197⟩, A140, H⟩ := H
    replace H : (if t195 = true then ((spec_l01Week.f t188 x5_1).bind fun t198 => (if t198 = true then (spec_l01DrawRight.j1 k1 x5_1 (decide ((x195003_1.length : Int) < 20)) s0_0 t196 t197 t188 t185 (wrap64 (t185 + t191)) x195003_1 x195004_1) else (spec_l01DrawRight.j1 k1 x5_1 false s0_0 t196 t197 t188 t185 (wrap64 (t185 + t191)) x195003_1 x195004_1))) else (spec_l01DrawRight.l0 k1 (wrap64 (x5_1 + 1)) s0_0 t196 t197 t188 t185 (wrap64 (t185 + t191)) x195003_1 x195004_1)) = some (r1, r2, r3, r4, r5, r6, r7) := H
    have A14 := Aside0.mk A140
    clear A140
    by_cases c15 : t195 = true
    ·subst c15
     have H1 : ((spec_l01Week.f t188 x5_1).bind fun t198 => (if t198 = true then (spec_l01DrawRight.j1 k1 x5_1 (decide ((x195003_1.length : Int) < 20)) s0_0 t196 t197 t188 t185 (wrap64 (t185 + t191)) x195003_1 x195004_1) else (spec_l01DrawRight.j1 k1 x5_1 false s0_0 t196 t197 t188 t185 (wrap64 (t185 + t191)) x195003_1 x195004_1))) = some (r1, r2, r3, r4, r5, r6, r7) := by (first | (rw [if_pos rfl] at H; exact H) | rfl)
     clear H
     have H := H1
     clear H1
     have HC16 := Aside0.mk H
     clear H
     have hnb17 := NB194_184.out
     have hnc17 := NB184_194.out
     have hnb18 := NB194_0.out
     have hnc18 := NB0_194.out
     have hcz19_0 : wr.cell? ⟨gb194, 0, none⟩ = some (.int .i64 t188) := (blk_cell BK194.out 0).trans rfl
     have hcz19_1 : wr.cell? ⟨gb194, 1, none⟩ = some (.int .i64 t185) := (blk_cell BK194.out 1).trans rfl
     have hcz19_2 : wr.cell? ⟨gb194, 2, none⟩ = some (.int .i64 (wrap64 (t185 + t191))) := (blk_cell BK194.out 2).trans rfl
     have hcz19_3 : wr.cell? ⟨gb194, 3, none⟩ = some (u195003) := (blk_cell BK194.out 3).trans rfl
     have hcz19_4 : wr.cell? ⟨gb194, 4, none⟩ = some (u195004) := (blk_cell BK194.out 4).trans rfl
     have hfz19_0 := blk_frozen BK194.out 0
     have hfz19_1 := blk_frozen BK194.out 1
     have hfz19_2 := blk_frozen BK194.out 2
     have hfz19_3 := blk_frozen BK194.out 3
     have hfz19_4 := blk_frozen BK194.out 4
     go_upto_region 7 with (first | ((with_reducible refine gate_callee (f := 53) rfl ?_); refine goesL_ (some 25) rfl rfl Try.func53 (by kernel_rfl) rfl #[.pointer (some ⟨g, 0, none⟩), .int .i64 9] rfl (by (try simp only [List.map_toArray, List.map_cons, List.map_nil]); first | done | rfl | (simp only [List.length_drop, List.length_take]; rfl)) ?_; (with_reducible refine (spec_l01Once.calls g s0_0 x1001_1 x1002_1 9 true t196 t197 w0 _ ?side1 ?side2 A14.out).mono ?_); (case side1 => repeat (first | (with_reducible first | exact HI0.out | apply IsS60.alloc | apply IsS60.drewN | apply IsS60.drew | apply IsS60.set_1 | apply IsS60.set_2 | refine IsS60.far ?_ NB0_184.out _ | refine IsS60.far ?_ NB0_194.out _) | exact HI0.out)); (case side2 => repeat (first | (with_reducible first | exact HB.out | apply below_alloc | apply pw_below_drewN | apply below_drew1 | refine below_set ?_ (IsS60.ge HI0.out) | refine below_set ?_ GE184.out | refine below_set ?_ GE194.out) | exact HB.out)); rintro e w20 ⟨rfl, hi, hb, hk⟩; refine ⟨_, rfl, ?_⟩; have n0_ := Aside0.mk (Kd.R_mono (Kd.R_keep (IsS60.apart (show IsS60 w0 _ g s0_0 x1001_1 x1002_1 from by repeat (first | (with_reducible first | exact HI0.out | apply IsS60.alloc | apply IsS60.drewN | apply IsS60.drew | apply IsS60.set_1 | apply IsS60.set_2 | refine IsS60.far ?_ NB0_184.out _ | refine IsS60.far ?_ NB0_194.out _) | exact HI0.out)) (by (with_reducible repeat (first | apply Kd.R_alloc | apply Kd.R_drewN | apply Kd.R_drew)); exact HO_195003.out) (by decide)) hk (fun _ h => h.2)) (fun _ h => h.1)); have n1_ := Aside0.mk (Kd.R_mono (Kd.R_keep (IsS60.apart (show IsS60 w0 _ g s0_0 x1001_1 x1002_1 from by repeat (first | (with_reducible first | exact HI0.out | apply IsS60.alloc | apply IsS60.drewN | apply IsS60.drew | apply IsS60.set_1 | apply IsS60.set_2 | refine IsS60.far ?_ NB0_184.out _ | refine IsS60.far ?_ NB0_194.out _) | exact HI0.out)) (by (with_reducible repeat (first | apply Kd.R_alloc | apply Kd.R_drewN | apply Kd.R_drew)); exact HO_195004.out) (by decide)) hk (fun _ h => h.2)) (fun _ h => h.1)); have n2_ := Aside0.mk (KeepBut.blk hk (g' := gb184) (o := .cells #[.int .i64 0, .int .i64 0, .int .i64 0, .slice none 0 0, .slice none 0 0] 27 (0, 0)) (by (with_reducible repeat (first | refine blk_drewN ?_ _ | refine blk_drew ?_ | refine blk_alloc ?_ _)); exact BK184.out) NB184_0.out (by simp)); have n3_ := Aside0.mk (KeepBut.blk hk (g' := gb194) (o := .cells #[.int .i64 t188, .int .i64 t185, .int .i64 (wrap64 (t185 + t191)), u195003, u195004] 27 (0, 0)) (by (with_reducible repeat (first | refine blk_drewN ?_ _ | refine blk_drew ?_ | refine blk_alloc ?_ _)); exact BK194.out) NB194_0.out (by simp)); have n4_ := Aside0.mk (KeepBut.trans (by repeat (first | (with_reducible first | exact HK.out | apply KeepBut.set_ | apply keep_drewN | apply keep_drew | apply keep_alloc | refine keep_far ?_ GW184.out _ | refine keep_far ?_ GW194.out _) | exact HK.out)) hk (.inl rfl)); have n5_ := Aside0.mk (hb); have n6_ := Aside0.mk (hi); clear HO_195003; clear HO_195004; clear BK184; clear BK194; clear HK; clear HB; clear HI0; have HO_195003 := n0_; have HO_195004 := n1_; have BK184 := n2_; have BK194 := n3_; have HK := n4_; have HB := n5_; have HI0 := n6_; clear n0_ n1_ n2_ n3_ n4_ n5_ n6_; (try clear hb); (try clear hb2); (try clear hk); (try clear hi)))
     (try simp only [Act.put, List.setIfInBounds_toArray, List.set_cons_zero, List.set_cons_succ])
     go_cut [35] (fun v35 wc => ∃ (kq : Nat) (x35_15 : Bool), v35 = .bool x35_15 ∧ Aside0 (spec_l01DrawRight.j1 kq x5_1 x35_15 s0_0 t196 t197 t188 t185 (wrap64 (t185 + t191)) x195003_1 x195004_1 = some (r1, r2, r3, r4, r5, r6, r7)) ∧ Aside0 (kq ≤ k1) ∧ Aside0 (Kd.R (Kd.int .i64) 3 wc w.heap.size (fun k_ => some k_ ≠ (u195004 : Value).ownBlock) u195003 x195003_1) ∧ Aside0 (Kd.R (Kd.int .i64) 3 wc w.heap.size (fun k_ => some k_ ≠ (u195003 : Value).ownBlock) u195004 x195004_1) ∧ Aside0 (wc.heap[gb184]? = some (.cells #[.int .i64 0, .int .i64 0, .int .i64 0, (.slice none 0 0), (.slice none 0 0)] 27 (0, 0))) ∧ Aside0 (wc.heap[gb194]? = some (.cells #[.int .i64 t188, .int .i64 t185, .int .i64 (wrap64 (t185 + t191)), u195003, u195004] 27 (0, 0))) ∧ Aside0 (IsS60 w0 wc g s0_0 t196 t197) ∧ Aside0 (KeepBut w wc g none) ∧ Aside0 (Below w0.heap.size w0 wc))
     case first =>
      have H := HC16.out
      clear HC16
      replace H := Option.bind_eq_some_iff.mp H
      obtain ⟨t198, A210, H⟩ := H
      replace H : (if t198 = true then (spec_l01DrawRight.j1 k1 x5_1 (decide ((x195003_1.length : Int) < 20)) s0_0 t196 t197 t188 t185 (wrap64 (t185 + t191)) x195003_1 x195004_1) else (spec_l01DrawRight.j1 k1 x5_1 false s0_0 t196 t197 t188 t185 (wrap64 (t185 + t191)) x195003_1 x195004_1)) = some (r1, r2, r3, r4, r5, r6, r7) := H
      have A21 := Aside0.mk A210
      clear A210
      by_cases c22 : t198 = true
      ·subst c22
       have H1 : (spec_l01DrawRight.j1 k1 x5_1 (decide ((x195003_1.length : Int) < 20)) s0_0 t196 t197 t188 t185 (wrap64 (t185 + t191)) x195003_1 x195004_1) = some (r1, r2, r3, r4, r5, r6, r7) := by (first | (rw [if_pos rfl] at H; exact H) | rfl)
       clear H
       have H := H1
       clear H1
       have H' := Aside0.mk H
       clear H
       have hnb23 := NB194_184.out
       have hnc23 := NB184_194.out
       have hnb24 := NB194_0.out
       have hnc24 := NB0_194.out
       have hcz25_0 : w20.cell? ⟨gb194, 0, none⟩ = some (.int .i64 t188) := (blk_cell BK194.out 0).trans rfl
       have hcz25_1 : w20.cell? ⟨gb194, 1, none⟩ = some (.int .i64 t185) := (blk_cell BK194.out 1).trans rfl
       have hcz25_2 : w20.cell? ⟨gb194, 2, none⟩ = some (.int .i64 (wrap64 (t185 + t191))) := (blk_cell BK194.out 2).trans rfl
       have hcz25_3 : w20.cell? ⟨gb194, 3, none⟩ = some (u195003) := (blk_cell BK194.out 3).trans rfl
       have hcz25_4 : w20.cell? ⟨gb194, 4, none⟩ = some (u195004) := (blk_cell BK194.out 4).trans rfl
       have hfz25_0 := blk_frozen BK194.out 0
       have hfz25_1 := blk_frozen BK194.out 1
       have hfz25_2 := blk_frozen BK194.out 2
       have hfz25_3 := blk_frozen BK194.out 3
       have hfz25_4 := blk_frozen BK194.out 4
       go_wp2_with (first | ((with_reducible refine gate_callee (f := 40) rfl ?_); refine goesL_ (some 29) rfl rfl Try.func40 (by kernel_rfl) rfl #[.int .i64 t188, .int .i64 x5_1] rfl (by (try simp only [List.map_toArray, List.map_cons, List.map_nil]); first | done | rfl | (simp only [List.length_drop, List.length_take]; rfl)) ?_; (with_reducible refine (spec_l01Week.calls t188 x5_1 true _ A21.out).mono ?_); rintro e w' ⟨rfl, ⟨nd, rfl⟩⟩; refine ⟨_, rfl, ?_⟩; obtain ⟨Ao26, co26, eo26⟩ := Kd.R_slice HO_195003.out; subst eo26))
       go_meet
       case rel => exact ⟨_, (decide ((x195003_1.length : Int) < 20)), (by first | rfl | (simp; done) | (simp [*]; done)), H', ⟨by have := HK1.out; first | omega | exact Nat.le_refl _⟩, ⟨by (with_reducible repeat (first | apply Kd.R_alloc | apply Kd.R_drewN | apply Kd.R_drew)); exact HO_195003.out⟩, ⟨by (with_reducible repeat (first | apply Kd.R_alloc | apply Kd.R_drewN | apply Kd.R_drew)); exact HO_195004.out⟩, ⟨by (with_reducible repeat (first | refine blk_drewN ?_ _ | refine blk_drew ?_ | refine blk_alloc ?_ _)); exact BK184.out⟩, ⟨by (with_reducible repeat (first | refine blk_drewN ?_ _ | refine blk_drew ?_ | refine blk_alloc ?_ _)); exact BK194.out⟩, ⟨by repeat (first | (with_reducible first | exact HI0.out | apply IsS60.alloc | apply IsS60.drewN | apply IsS60.drew | apply IsS60.set_1 | apply IsS60.set_2 | refine IsS60.far ?_ NB0_184.out _ | refine IsS60.far ?_ NB0_194.out _) | exact HI0.out)⟩, ⟨by repeat (first | (with_reducible first | exact HK.out | apply KeepBut.set_ | apply keep_drewN | apply keep_drew | apply keep_alloc | refine keep_far ?_ GW184.out _ | refine keep_far ?_ GW194.out _) | exact HK.out)⟩, ⟨by repeat (first | (with_reducible first | exact HB.out | apply below_alloc | apply pw_below_drewN | apply below_drew1 | refine below_set ?_ (IsS60.ge HI0.out) | refine below_set ?_ GE184.out | refine below_set ?_ GE194.out) | exact HB.out)⟩⟩
      ·replace c22 := Bool.eq_false_iff.mpr c22
       subst c22
       have H1 : (spec_l01DrawRight.j1 k1 x5_1 false s0_0 t196 t197 t188 t185 (wrap64 (t185 + t191)) x195003_1 x195004_1) = some (r1, r2, r3, r4, r5, r6, r7) := by (first | (rw [if_neg (show ¬ (false = true) by decide)] at H; exact H) | rfl)
       clear H
       have H := H1
       clear H1
       have H' := Aside0.mk H
       clear H
       have hnb27 := NB194_184.out
       have hnc27 := NB184_194.out
       have hnb28 := NB194_0.out
       have hnc28 := NB0_194.out
       have hcz29_0 : w20.cell? ⟨gb194, 0, none⟩ = some (.int .i64 t188) := (blk_cell BK194.out 0).trans rfl
       have hcz29_1 : w20.cell? ⟨gb194, 1, none⟩ = some (.int .i64 t185) := (blk_cell BK194.out 1).trans rfl
       have hcz29_2 : w20.cell? ⟨gb194, 2, none⟩ = some (.int .i64 (wrap64 (t185 + t191))) := (blk_cell BK194.out 2).trans rfl
       have hcz29_3 : w20.cell? ⟨gb194, 3, none⟩ = some (u195003) := (blk_cell BK194.out 3).trans rfl
       have hcz29_4 : w20.cell? ⟨gb194, 4, none⟩ = some (u195004) := (blk_cell BK194.out 4).trans rfl
       have hfz29_0 := blk_frozen BK194.out 0
       have hfz29_1 := blk_frozen BK194.out 1
       have hfz29_2 := blk_frozen BK194.out 2
       have hfz29_3 := blk_frozen BK194.out 3
       have hfz29_4 := blk_frozen BK194.out 4
       go_wp2_with (first | ((with_reducible refine gate_callee (f := 40) rfl ?_); refine goesL_ (some 29) rfl rfl Try.func40 (by kernel_rfl) rfl #[.int .i64 t188, .int .i64 x5_1] rfl (by (try simp only [List.map_toArray, List.map_cons, List.map_nil]); first | done | rfl | (simp only [List.length_drop, List.length_take]; rfl)) ?_; (with_reducible refine (spec_l01Week.calls t188 x5_1 false _ A21.out).mono ?_); rintro e w' ⟨rfl, ⟨nd, rfl⟩⟩; refine ⟨_, rfl, ?_⟩))
       go_meet
       case rel => exact ⟨_, (false), (by first | rfl | (simp; done) | (simp [*]; done)), H', ⟨by have := HK1.out; first | omega | exact Nat.le_refl _⟩, ⟨by (with_reducible repeat (first | apply Kd.R_alloc | apply Kd.R_drewN | apply Kd.R_drew)); exact HO_195003.out⟩, ⟨by (with_reducible repeat (first | apply Kd.R_alloc | apply Kd.R_drewN | apply Kd.R_drew)); exact HO_195004.out⟩, ⟨by (with_reducible repeat (first | refine blk_drewN ?_ _ | refine blk_drew ?_ | refine blk_alloc ?_ _)); exact BK184.out⟩, ⟨by (with_reducible repeat (first | refine blk_drewN ?_ _ | refine blk_drew ?_ | refine blk_alloc ?_ _)); exact BK194.out⟩, ⟨by repeat (first | (with_reducible first | exact HI0.out | apply IsS60.alloc | apply IsS60.drewN | apply IsS60.drew | apply IsS60.set_1 | apply IsS60.set_2 | refine IsS60.far ?_ NB0_184.out _ | refine IsS60.far ?_ NB0_194.out _) | exact HI0.out)⟩, ⟨by repeat (first | (with_reducible first | exact HK.out | apply KeepBut.set_ | apply keep_drewN | apply keep_drew | apply keep_alloc | refine keep_far ?_ GW184.out _ | refine keep_far ?_ GW194.out _) | exact HK.out)⟩, ⟨by repeat (first | (with_reducible first | exact HB.out | apply below_alloc | apply pw_below_drewN | apply below_drew1 | refine below_set ?_ (IsS60.ge HI0.out) | refine below_set ?_ GE184.out | refine below_set ?_ GE194.out) | exact HB.out)⟩⟩
     case rest =>
      clear HC16
      try clear c1
      try clear c2
      try clear p2
      try clear c4
      try clear c5
      try clear p6
      try clear c10
      try clear c11
      try clear c13
      try clear c13b0
      try clear c15
      try clear c17
      try clear c18
      try clear c22
      try clear c23
      try clear c24
      try clear c27
      try clear c28
      try clear hcz12_0
      try clear hcz12_1
      try clear hcz12_2
      try clear hcz12_3
      try clear hcz12_4
      try clear hcz19_0
      try clear hcz19_1
      try clear hcz19_2
      try clear hcz19_3
      try clear hcz19_4
      try clear hcz25_0
      try clear hcz25_1
      try clear hcz25_2
      try clear hcz25_3
      try clear hcz25_4
      try clear hcz29_0
      try clear hcz29_1
      try clear hcz29_2
      try clear hcz29_3
      try clear hcz29_4
      try clear hfz12_0
      try clear hfz12_1
      try clear hfz12_2
      try clear hfz12_3
      try clear hfz12_4
      try clear hfz19_0
      try clear hfz19_1
      try clear hfz19_2
      try clear hfz19_3
      try clear hfz19_4
      try clear hfz25_0
      try clear hfz25_1
      try clear hfz25_2
      try clear hfz25_3
      try clear hfz25_4
      try clear hfz29_0
      try clear hfz29_1
      try clear hfz29_2
      try clear hfz29_3
      try clear hfz29_4
      try clear p2
      try clear p6
      obtain ⟨kq, x35_15, rfl, HA, HJ15, HO_195003, HO_195004, BK184, BK194, HI0, HK, HB⟩ := hcut
      cases kq with
      | zero => exact absurd HA.out (by simp [spec_l01DrawRight.j1])
      | succ kj15 =>
       have H := HA.out
       clear HA
       simp only [spec_l01DrawRight.j1] at H
       by_cases c30 : x35_15 = true
       ·subst c30
        have H1 : (if x195003_1.length < 17592186044416 then ((some (x195003_1 ++ [x5_1] : List Int)).bind fun y199 => ((spec_l01Week.f t188 x5_1).bind fun t202 => (if t202 = true then (spec_l01DrawRight.l0 kj15 (wrap64 (x5_1 + 1)) s0_0 t196 t197 t188 t185 (wrap64 (t185 + t191)) y199 x195004_1) else (if (x195004_1.length : Int) < 20 then (if x195004_1.length < 17592186044416 then (spec_l01DrawRight.l0 kj15 (wrap64 (x5_1 + 1)) s0_0 t196 t197 t188 t185 (wrap64 (t185 + t191)) y199 (x195004_1 ++ [x5_1])) else (none)) else (spec_l01DrawRight.l0 kj15 (wrap64 (x5_1 + 1)) s0_0 t196 t197 t188 t185 (wrap64 (t185 + t191)) y199 x195004_1))))) else (none)) = some (r1, r2, r3, r4, r5, r6, r7) := by (first | (rw [if_pos rfl] at H; exact H) | rfl)
        clear H
        have H := H1
        clear H1
        by_cases c31 : x195003_1.length < 17592186044416
        ·rw [if_pos c31] at H
         have LMc31 := Aside0.mk c31
         clear c31
         obtain ⟨y199, hy199⟩ : ∃ y_ : List Int, y_ = (x195003_1 ++ [x5_1]) := ⟨_, rfl⟩
         replace H : ((spec_l01Week.f t188 x5_1).bind fun t202 => (if t202 = true then (spec_l01DrawRight.l0 kj15 (wrap64 (x5_1 + 1)) s0_0 t196 t197 t188 t185 (wrap64 (t185 + t191)) y199 x195004_1) else (if (x195004_1.length : Int) < 20 then (if x195004_1.length < 17592186044416 then (spec_l01DrawRight.l0 kj15 (wrap64 (x5_1 + 1)) s0_0 t196 t197 t188 t185 (wrap64 (t185 + t191)) y199 (x195004_1 ++ [x5_1])) else (none)) else (spec_l01DrawRight.l0 kj15 (wrap64 (x5_1 + 1)) s0_0 t196 t197 t188 t185 (wrap64 (t185 + t191)) y199 x195004_1)))) = some (r1, r2, r3, r4, r5, r6, r7) := by first | (rw [hy199]; with_reducible exact H) | (have H2_ := (Option.bind_some _ _).symm.trans H; rw [hy199]; with_reducible exact H2_) | (have H2_ := (Option.bind_some _ _).symm.trans H; with_reducible exact H2_) | with_reducible exact H | (rw [hy199]; exact H) | exact H
         have Ny199 := Aside0.mk hy199
         clear hy199
         replace H := Option.bind_eq_some_iff.mp H
         obtain ⟨t202, A320, H⟩ := H
         replace H : (if t202 = true then (spec_l01DrawRight.l0 kj15 (wrap64 (x5_1 + 1)) s0_0 t196 t197 t188 t185 (wrap64 (t185 + t191)) y199 x195004_1) else (if (x195004_1.length : Int) < 20 then (if x195004_1.length < 17592186044416 then (spec_l01DrawRight.l0 kj15 (wrap64 (x5_1 + 1)) s0_0 t196 t197 t188 t185 (wrap64 (t185 + t191)) y199 (x195004_1 ++ [x5_1])) else (none)) else (spec_l01DrawRight.l0 kj15 (wrap64 (x5_1 + 1)) s0_0 t196 t197 t188 t185 (wrap64 (t185 + t191)) y199 x195004_1))) = some (r1, r2, r3, r4, r5, r6, r7) := H
         have A32 := Aside0.mk A320
         clear A320
         by_cases c33 : t202 = true
         ·subst c33
          have H1 : (spec_l01DrawRight.l0 kj15 (wrap64 (x5_1 + 1)) s0_0 t196 t197 t188 t185 (wrap64 (t185 + t191)) y199 x195004_1) = some (r1, r2, r3, r4, r5, r6, r7) := by (first | (rw [if_pos rfl] at H; exact H) | rfl)
          clear H
          have H := H1
          clear H1
          have H' := Aside0.mk H
          clear H
          have hnb34 := NB194_184.out
          have hnc34 := NB184_194.out
          have hnb35 := NB194_0.out
          have hnc35 := NB0_194.out
          have hcz36_0 : wc.cell? ⟨gb194, 0, none⟩ = some (.int .i64 t188) := (blk_cell BK194.out 0).trans rfl
          have hcz36_1 : wc.cell? ⟨gb194, 1, none⟩ = some (.int .i64 t185) := (blk_cell BK194.out 1).trans rfl
          have hcz36_2 : wc.cell? ⟨gb194, 2, none⟩ = some (.int .i64 (wrap64 (t185 + t191))) := (blk_cell BK194.out 2).trans rfl
          have hcz36_3 : wc.cell? ⟨gb194, 3, none⟩ = some (u195003) := (blk_cell BK194.out 3).trans rfl
          have hcz36_4 : wc.cell? ⟨gb194, 4, none⟩ = some (u195004) := (blk_cell BK194.out 4).trans rfl
          have hfz36_0 := blk_frozen BK194.out 0
          have hfz36_1 := blk_frozen BK194.out 1
          have hfz36_2 := blk_frozen BK194.out 2
          have hfz36_3 := blk_frozen BK194.out 3
          have hfz36_4 := blk_frozen BK194.out 4
          go_wp2_with (first | ((with_reducible refine gate_builtin (b := .append) (xs := #[.tmp 37, .tmp 39]) rfl ?_); (try (refine gate_guard (by rfl) ?_; dsimp only)); at_builtin; refine Kd.R_append (Kd.int .i64) w.heap.size rfl (.tmp 37) (.tmp 39) 22 3 (.int .i64 0) 8 rfl Try.underlying22 info3 rfl (by decide) (by omega) u195003 x195003_1 x5_1 [.int .i64 x5_1] (fun k_ => some k_ ≠ (u195004 : Value).ownBlock) (fun _ => False) rfl rfl ?aP (fun _ hk => hk.elim) ?aF ?aO (Below.refl _ _) ?aS ?aL ?_; (case aP => exact rfl); (case aF => exact (fun k_ hk => Kd.fresh' (Kd.R_lt (by (with_reducible repeat (first | apply Kd.R_alloc | apply Kd.R_drewN | apply Kd.R_drew)); exact HO_195004.out)) k_ hk)); (case aO => exact (by (with_reducible repeat (first | apply Kd.R_alloc | apply Kd.R_drewN | apply Kd.R_drew)); exact HO_195003.out)); (case aS => exact (keep_size (w := w) (g := g) (row := none) (by repeat (first | (with_reducible first | exact HK.out | apply KeepBut.set_ | apply keep_drewN | apply keep_drew | apply keep_alloc | refine keep_far ?_ GW184.out _ | refine keep_far ?_ GW194.out _) | exact HK.out)))); (case aL => have := LMc31.out; omega); intro v200 w37 ho hb hg hat; rw [← Ny199.out] at ho; have n0_ := Aside0.mk (Kd.R_after (ok := (fun _ => True)) (by (with_reducible repeat (first | apply Kd.R_alloc | apply Kd.R_drewN | apply Kd.R_drew)); exact Kd.R_mono HO_195004.out (fun _ hk => ⟨trivial, hk⟩)) hg hat); have n1_ := Aside0.mk (blk_grown (g := gb184) (o := .cells #[.int .i64 0, .int .i64 0, .int .i64 0, .slice none 0 0, .slice none 0 0] 27 (0, 0)) (by (with_reducible repeat (first | refine blk_drewN ?_ _ | refine blk_drew ?_ | refine blk_alloc ?_ _)); exact BK184.out) hg (Kd.R_ne HO_195003.out BK184.out (by decide))); have n2_ := Aside0.mk (blk_grown (g := gb194) (o := .cells #[.int .i64 t188, .int .i64 t185, .int .i64 (wrap64 (t185 + t191)), u195003, u195004] 27 (0, 0)) (by (with_reducible repeat (first | refine blk_drewN ?_ _ | refine blk_drew ?_ | refine blk_alloc ?_ _)); exact BK194.out) hg (Kd.R_ne HO_195003.out BK194.out (by decide))); have n3_ := Aside0.mk (IsS60.grown (by (first | (with_reducible exact IsS60.drewN (IsS60.far HI0.out NB0_184.out _) _) | (with_reducible exact IsS60.far HI0.out NB0_184.out _) | (with_reducible exact IsS60.drewN (IsS60.far HI0.out NB0_194.out _) _) | (with_reducible exact IsS60.far HI0.out NB0_194.out _) | skip); repeat (first | (with_reducible first | exact HI0.out | apply IsS60.alloc | apply IsS60.drewN | apply IsS60.drew | apply IsS60.set_1 | apply IsS60.set_2 | refine IsS60.far ?_ NB0_184.out _ | refine IsS60.far ?_ NB0_194.out _) | exact HI0.out)) hg (IsS60.own_ne HI0.out HO_195003.out (by decide))); have n4_ := Aside0.mk (below_weaken (by repeat (first | (with_reducible first | exact HB.out | apply below_alloc | apply pw_below_drewN | apply below_drew1 | refine below_set ?_ (IsS60.ge HI0.out) | refine below_set ?_ GE184.out | refine below_set ?_ GE194.out) | exact HB.out)) HL.out hb); have n5_ := Aside0.mk (KeepBut.trans (by repeat (first | (with_reducible first | exact HK.out | apply KeepBut.set_ | apply keep_drewN | apply keep_drew | apply keep_alloc | refine keep_far ?_ GW184.out _ | refine keep_far ?_ GW194.out _) | exact HK.out)) (KeepBut.of_grown hg g) (Kd.R_base2 HO_195003.out)); have n6_ := Aside0.mk (ho); clear HO_195004; clear BK184; clear BK194; clear HI0; clear HB; clear HK; clear HO_195003; have HO_195004 := n0_; have BK184 := n1_; have BK194 := n2_; have HI0 := n3_; have HB := n4_; have HK := n5_; have HO201 := n6_; clear n0_ n1_ n2_ n3_ n4_ n5_ n6_; clear ho hb hg hat; obtain ⟨Ao38, co38, eo38⟩ := Kd.R_slice HO201.out; subst eo38; have hcz39_0 : w37.cell? ⟨gb194, 0, none⟩ = some (.int .i64 t188) := (blk_cell BK194.out 0).trans rfl; have hcz39_1 : w37.cell? ⟨gb194, 1, none⟩ = some (.int .i64 t185) := (blk_cell BK194.out 1).trans rfl; have hcz39_2 : w37.cell? ⟨gb194, 2, none⟩ = some (.int .i64 (wrap64 (t185 + t191))) := (blk_cell BK194.out 2).trans rfl; have hcz39_3 : w37.cell? ⟨gb194, 3, none⟩ = some (u195003) := (blk_cell BK194.out 3).trans rfl; have hcz39_4 : w37.cell? ⟨gb194, 4, none⟩ = some (u195004) := (blk_cell BK194.out 4).trans rfl; have hfz39_0 := blk_frozen BK194.out 0; have hfz39_1 := blk_frozen BK194.out 1; have hfz39_2 := blk_frozen BK194.out 2; have hfz39_3 := blk_frozen BK194.out 3; have hfz39_4 := blk_frozen BK194.out 4) | ((with_reducible refine gate_callee (f := 40) rfl ?_); refine goesL_ (some 45) rfl rfl Try.func40 (by kernel_rfl) rfl #[.int .i64 t188, .int .i64 x5_1] rfl (by (try simp only [List.map_toArray, List.map_cons, List.map_nil]); first | done | rfl | (simp only [List.length_drop, List.length_take]; rfl)) ?_; (with_reducible refine (spec_l01Week.calls t188 x5_1 true _ A32.out).mono ?_); rintro e w' ⟨rfl, ⟨nd, rfl⟩⟩; refine ⟨_, rfl, ?_⟩))
          go_roundg kj15
          case measure => have := HK1.out; have := HJ15.out; omega
          case rel => exact ⟨(wrap64 (x5_1 + 1)), (t196), (t197), (y199), (x195004_1), (.slice Ao38 y199.length co38), (u195004), (by first | rfl | (simp; done) | (simp [*]; done)), H', ⟨by have := HK1.out; have := HJ15.out; omega⟩, ⟨by (with_reducible repeat (first | apply Kd.R_alloc | apply Kd.R_drewN | apply Kd.R_drew)); exact Kd.R_mono (Kd.R_far (p := ⟨gb194, 3, none⟩) (Kd.R_types HO201.out BK194.out (by decide)) (fun _ hk => hk.2) (.slice Ao38 y199.length co38)) (fun _ hk => hk.1)⟩, ⟨by (with_reducible repeat (first | apply Kd.R_alloc | apply Kd.R_drewN | apply Kd.R_drew)); exact Kd.R_mono (Kd.R_far (p := ⟨gb194, 3, none⟩) (Kd.R_types HO_195004.out BK194.out (by decide)) (fun _ hk => hk.2) (.slice Ao38 y199.length co38)) (fun _ hk => hk.1.2)⟩, ⟨by (with_reducible repeat (first | refine blk_drewN ?_ _ | refine blk_drew ?_ | refine blk_alloc ?_ _)); refine blk_far ?_ NB184_194.out _; (with_reducible repeat (first | refine blk_drewN ?_ _ | refine blk_drew ?_ | refine blk_alloc ?_ _)); exact BK184.out⟩, ⟨by (with_reducible repeat (first | refine blk_drewN ?_ _ | refine blk_drew ?_ | refine blk_alloc ?_ _)); refine blk_put (cs := #[.int .i64 t188, .int .i64 t185, .int .i64 (wrap64 (t185 + t191)), u195003, u195004]) ?_ 3 _ rfl; (with_reducible repeat (first | refine blk_drewN ?_ _ | refine blk_drew ?_ | refine blk_alloc ?_ _)); exact BK194.out⟩, ⟨by repeat (first | (with_reducible first | exact HI0.out | apply IsS60.alloc | apply IsS60.drewN | apply IsS60.drew | apply IsS60.set_1 | apply IsS60.set_2 | refine IsS60.far ?_ NB0_184.out _ | refine IsS60.far ?_ NB0_194.out _) | exact HI0.out)⟩, ⟨by repeat (first | (with_reducible first | exact HK.out | apply KeepBut.set_ | apply keep_drewN | apply keep_drew | apply keep_alloc | refine keep_far ?_ GW184.out _ | refine keep_far ?_ GW194.out _) | exact HK.out)⟩, ⟨by repeat (first | (with_reducible first | exact HB.out | apply below_alloc | apply pw_below_drewN | apply below_drew1 | refine below_set ?_ (IsS60.ge HI0.out) | refine below_set ?_ GE184.out | refine below_set ?_ GE194.out) | exact HB.out)⟩⟩
         ·replace c33 := Bool.eq_false_iff.mpr c33
          subst c33
          have H1 : (if (x195004_1.length : Int) < 20 then (if x195004_1.length < 17592186044416 then (spec_l01DrawRight.l0 kj15 (wrap64 (x5_1 + 1)) s0_0 t196 t197 t188 t185 (wrap64 (t185 + t191)) y199 (x195004_1 ++ [x5_1])) else (none)) else (spec_l01DrawRight.l0 kj15 (wrap64 (x5_1 + 1)) s0_0 t196 t197 t188 t185 (wrap64 (t185 + t191)) y199 x195004_1)) = some (r1, r2, r3, r4, r5, r6, r7) := by (first | (rw [if_neg (show ¬ (false = true) by decide)] at H; exact H) | rfl)
          clear H
          have H := H1
          clear H1
          by_cases c40 : (x195004_1.length : Int) < 20
          ·rw [if_pos c40] at H
           have c40b0 : decide ((x195004_1.length : Int) < 20) = true := decide_eq_true c40
           have c40b1 : decide (x195004_1.length < 20) = true := decide_eq_true (by omega)
           clear c40
           by_cases c41 : x195004_1.length < 17592186044416
           ·rw [if_pos c41] at H
            have LMc41 := Aside0.mk c41
            clear c41
            obtain ⟨y203, hy203⟩ : ∃ y_ : List Int, y_ = (x195004_1 ++ [x5_1]) := ⟨_, rfl⟩
            replace H : (spec_l01DrawRight.l0 kj15 (wrap64 (x5_1 + 1)) s0_0 t196 t197 t188 t185 (wrap64 (t185 + t191)) y199 y203) = some (r1, r2, r3, r4, r5, r6, r7) := by first | (rw [hy203]; with_reducible exact H) | (have H2_ := (Option.bind_some _ _).symm.trans H; rw [hy203]; with_reducible exact H2_) | (have H2_ := (Option.bind_some _ _).symm.trans H; with_reducible exact H2_) | with_reducible exact H | (rw [hy203]; exact H) | exact H
            have Ny203 := Aside0.mk hy203
            clear hy203
            have H' := Aside0.mk H
            clear H
            have hnb42 := NB194_184.out
            have hnc42 := NB184_194.out
            have hnb43 := NB194_0.out
            have hnc43 := NB0_194.out
            have hcz44_0 : wc.cell? ⟨gb194, 0, none⟩ = some (.int .i64 t188) := (blk_cell BK194.out 0).trans rfl
            have hcz44_1 : wc.cell? ⟨gb194, 1, none⟩ = some (.int .i64 t185) := (blk_cell BK194.out 1).trans rfl
            have hcz44_2 : wc.cell? ⟨gb194, 2, none⟩ = some (.int .i64 (wrap64 (t185 + t191))) := (blk_cell BK194.out 2).trans rfl
            have hcz44_3 : wc.cell? ⟨gb194, 3, none⟩ = some (u195003) := (blk_cell BK194.out 3).trans rfl
            have hcz44_4 : wc.cell? ⟨gb194, 4, none⟩ = some (u195004) := (blk_cell BK194.out 4).trans rfl
            have hfz44_0 := blk_frozen BK194.out 0
            have hfz44_1 := blk_frozen BK194.out 1
            have hfz44_2 := blk_frozen BK194.out 2
            have hfz44_3 := blk_frozen BK194.out 3
            have hfz44_4 := blk_frozen BK194.out 4
            go_wp2_with (first | ((with_reducible refine gate_builtin (b := .append) (xs := #[.tmp 37, .tmp 39]) rfl ?_); (try (refine gate_guard (by rfl) ?_; dsimp only)); at_builtin; refine Kd.R_append (Kd.int .i64) w.heap.size rfl (.tmp 37) (.tmp 39) 22 3 (.int .i64 0) 8 rfl Try.underlying22 info3 rfl (by decide) (by omega) u195003 x195003_1 x5_1 [.int .i64 x5_1] (fun k_ => some k_ ≠ (u195004 : Value).ownBlock) (fun _ => False) rfl rfl ?aP (fun _ hk => hk.elim) ?aF ?aO (Below.refl _ _) ?aS ?aL ?_; (case aP => exact rfl); (case aF => exact (fun k_ hk => Kd.fresh' (Kd.R_lt (by (with_reducible repeat (first | apply Kd.R_alloc | apply Kd.R_drewN | apply Kd.R_drew)); exact HO_195004.out)) k_ hk)); (case aO => exact (by (with_reducible repeat (first | apply Kd.R_alloc | apply Kd.R_drewN | apply Kd.R_drew)); exact HO_195003.out)); (case aS => exact (keep_size (w := w) (g := g) (row := none) (by repeat (first | (with_reducible first | exact HK.out | apply KeepBut.set_ | apply keep_drewN | apply keep_drew | apply keep_alloc | refine keep_far ?_ GW184.out _ | refine keep_far ?_ GW194.out _) | exact HK.out)))); (case aL => have := LMc31.out; omega); intro v200 w45 ho hb hg hat; rw [← Ny199.out] at ho; have n0_ := Aside0.mk (Kd.R_after (ok := (fun _ => True)) (by (with_reducible repeat (first | apply Kd.R_alloc | apply Kd.R_drewN | apply Kd.R_drew)); exact Kd.R_mono HO_195004.out (fun _ hk => ⟨trivial, hk⟩)) hg hat); have n1_ := Aside0.mk (blk_grown (g := gb184) (o := .cells #[.int .i64 0, .int .i64 0, .int .i64 0, .slice none 0 0, .slice none 0 0] 27 (0, 0)) (by (with_reducible repeat (first | refine blk_drewN ?_ _ | refine blk_drew ?_ | refine blk_alloc ?_ _)); exact BK184.out) hg (Kd.R_ne HO_195003.out BK184.out (by decide))); have n2_ := Aside0.mk (blk_grown (g := gb194) (o := .cells #[.int .i64 t188, .int .i64 t185, .int .i64 (wrap64 (t185 + t191)), u195003, u195004] 27 (0, 0)) (by (with_reducible repeat (first | refine blk_drewN ?_ _ | refine blk_drew ?_ | refine blk_alloc ?_ _)); exact BK194.out) hg (Kd.R_ne HO_195003.out BK194.out (by decide))); have n3_ := Aside0.mk (IsS60.grown (by (first | (with_reducible exact IsS60.drewN (IsS60.far HI0.out NB0_184.out _) _) | (with_reducible exact IsS60.far HI0.out NB0_184.out _) | (with_reducible exact IsS60.drewN (IsS60.far HI0.out NB0_194.out _) _) | (with_reducible exact IsS60.far HI0.out NB0_194.out _) | skip); repeat (first | (with_reducible first | exact HI0.out | apply IsS60.alloc | apply IsS60.drewN | apply IsS60.drew | apply IsS60.set_1 | apply IsS60.set_2 | refine IsS60.far ?_ NB0_184.out _ | refine IsS60.far ?_ NB0_194.out _) | exact HI0.out)) hg (IsS60.own_ne HI0.out HO_195003.out (by decide))); have n4_ := Aside0.mk (below_weaken (by repeat (first | (with_reducible first | exact HB.out | apply below_alloc | apply pw_below_drewN | apply below_drew1 | refine below_set ?_ (IsS60.ge HI0.out) | refine below_set ?_ GE184.out | refine below_set ?_ GE194.out) | exact HB.out)) HL.out hb); have n5_ := Aside0.mk (KeepBut.trans (by repeat (first | (with_reducible first | exact HK.out | apply KeepBut.set_ | apply keep_drewN | apply keep_drew | apply keep_alloc | refine keep_far ?_ GW184.out _ | refine keep_far ?_ GW194.out _) | exact HK.out)) (KeepBut.of_grown hg g) (Kd.R_base2 HO_195003.out)); have n6_ := Aside0.mk (ho); clear HO_195004; clear BK184; clear BK194; clear HI0; clear HB; clear HK; clear HO_195003; have HO_195004 := n0_; have BK184 := n1_; have BK194 := n2_; have HI0 := n3_; have HB := n4_; have HK := n5_; have HO201 := n6_; clear n0_ n1_ n2_ n3_ n4_ n5_ n6_; clear ho hb hg hat; obtain ⟨Ao46, co46, eo46⟩ := Kd.R_slice HO201.out; subst eo46; have hcz47_0 : w45.cell? ⟨gb194, 0, none⟩ = some (.int .i64 t188) := (blk_cell BK194.out 0).trans rfl; have hcz47_1 : w45.cell? ⟨gb194, 1, none⟩ = some (.int .i64 t185) := (blk_cell BK194.out 1).trans rfl; have hcz47_2 : w45.cell? ⟨gb194, 2, none⟩ = some (.int .i64 (wrap64 (t185 + t191))) := (blk_cell BK194.out 2).trans rfl; have hcz47_3 : w45.cell? ⟨gb194, 3, none⟩ = some (u195003) := (blk_cell BK194.out 3).trans rfl; have hcz47_4 : w45.cell? ⟨gb194, 4, none⟩ = some (u195004) := (blk_cell BK194.out 4).trans rfl; have hfz47_0 := blk_frozen BK194.out 0; have hfz47_1 := blk_frozen BK194.out 1; have hfz47_2 := blk_frozen BK194.out 2; have hfz47_3 := blk_frozen BK194.out 3; have hfz47_4 := blk_frozen BK194.out 4) | ((with_reducible refine gate_callee (f := 40) rfl ?_); refine goesL_ (some 45) rfl rfl Try.func40 (by kernel_rfl) rfl #[.int .i64 t188, .int .i64 x5_1] rfl (by (try simp only [List.map_toArray, List.map_cons, List.map_nil]); first | done | rfl | (simp only [List.length_drop, List.length_take]; rfl)) ?_; (with_reducible refine (spec_l01Week.calls t188 x5_1 false _ A32.out).mono ?_); rintro e w' ⟨rfl, ⟨nd, rfl⟩⟩; refine ⟨_, rfl, ?_⟩; obtain ⟨Ao48, co48, eo48⟩ := Kd.R_slice HO_195004.out; subst eo48) | ((with_reducible refine gate_builtin (b := .append) (xs := #[.tmp 54, .tmp 56]) rfl ?_); (try (refine gate_guard (by rfl) ?_; dsimp only)); at_builtin; refine Kd.R_append (Kd.int .i64) w.heap.size rfl (.tmp 54) (.tmp 56) 22 3 (.int .i64 0) 8 rfl Try.underlying22 info3 rfl (by decide) (by omega) (.slice Ao48 x195004_1.length co48) x195004_1 x5_1 [.int .i64 x5_1] (fun k_ => some k_ ≠ (.slice Ao46 y199.length co46 : Value).ownBlock) (fun _ => False) rfl (by first | (go_simp; done) | (go_simp; rfl)) ?aP (fun _ hk => hk.elim) ?aF ?aO (Below.refl _ _) ?aS ?aL ?_; (case aP => exact rfl); (case aF => exact (fun k_ hk => Kd.fresh' (Kd.R_lt (by (with_reducible repeat (first | apply Kd.R_alloc | apply Kd.R_drewN | apply Kd.R_drew)); exact (Kd.R_mono (Kd.R_far (p := ⟨gb194, 3, none⟩) (Kd.R_types HO201.out BK194.out (by decide)) (fun _ hk => hk.2) (.slice Ao46 y199.length co46)) (fun _ h_ => h_.1)))) k_ hk)); (case aO => exact (by (with_reducible repeat (first | apply Kd.R_alloc | apply Kd.R_drewN | apply Kd.R_drew)); exact Kd.R_mono (Kd.R_far (p := ⟨gb194, 3, none⟩) (Kd.R_types HO_195004.out BK194.out (by decide)) (fun _ hk => hk.2) (.slice Ao46 y199.length co46)) (fun _ hk => hk.1.2))); (case aS => exact (keep_size (w := w) (g := g) (row := none) (by repeat (first | (with_reducible first | exact HK.out | apply KeepBut.set_ | apply keep_drewN | apply keep_drew | apply keep_alloc | refine keep_far ?_ GW184.out _ | refine keep_far ?_ GW194.out _) | exact HK.out)))); (case aL => have := LMc41.out; omega); intro v204 w49 ho hb hg hat; rw [← Ny203.out] at ho; have n0_ := Aside0.mk (blk_grown (g := gb184) (o := .cells #[.int .i64 0, .int .i64 0, .int .i64 0, .slice none 0 0, .slice none 0 0] 27 (0, 0)) (by (with_reducible repeat (first | refine blk_drewN ?_ _ | refine blk_drew ?_ | refine blk_alloc ?_ _)); refine blk_far ?_ NB184_194.out _; (with_reducible repeat (first | refine blk_drewN ?_ _ | refine blk_drew ?_ | refine blk_alloc ?_ _)); exact BK184.out) hg (Kd.R_ne HO_195004.out BK184.out (by decide))); have n1_ := Aside0.mk (blk_grown (g := gb194) (o := .cells #[.int .i64 t188, .int .i64 t185, .int .i64 (wrap64 (t185 + t191)), .slice Ao46 y199.length co46, .slice Ao48 x195004_1.length co48] 27 (0, 0)) (by (with_reducible repeat (first | refine blk_drewN ?_ _ | refine blk_drew ?_ | refine blk_alloc ?_ _)); refine blk_put (cs := #[.int .i64 t188, .int .i64 t185, .int .i64 (wrap64 (t185 + t191)), u195003, .slice Ao48 x195004_1.length co48]) ?_ 3 _ rfl; (with_reducible repeat (first | refine blk_drewN ?_ _ | refine blk_drew ?_ | refine blk_alloc ?_ _)); exact BK194.out) hg (Kd.R_ne HO_195004.out BK194.out (by decide))); have n2_ := Aside0.mk (IsS60.grown (by (first | (with_reducible exact IsS60.drewN (IsS60.far HI0.out NB0_184.out _) _) | (with_reducible exact IsS60.far HI0.out NB0_184.out _) | (with_reducible exact IsS60.drewN (IsS60.far HI0.out NB0_194.out _) _) | (with_reducible exact IsS60.far HI0.out NB0_194.out _) | skip); repeat (first | (with_reducible first | exact HI0.out | apply IsS60.alloc | apply IsS60.drewN | apply IsS60.drew | apply IsS60.set_1 | apply IsS60.set_2 | refine IsS60.far ?_ NB0_184.out _ | refine IsS60.far ?_ NB0_194.out _) | exact HI0.out)) hg (IsS60.own_ne HI0.out HO_195004.out (by decide))); have n3_ := Aside0.mk (Kd.R_after (ok := (fun _ => True)) (by (with_reducible repeat (first | apply Kd.R_alloc | apply Kd.R_drewN | apply Kd.R_drew)); exact Kd.R_mono (Kd.R_far (p := ⟨gb194, 3, none⟩) (Kd.R_types HO201.out BK194.out (by decide)) (fun _ hk => hk.2) (.slice Ao46 y199.length co46)) (fun _ hk => ⟨trivial, hk.1⟩)) hg hat); have n4_ := Aside0.mk (below_weaken (by repeat (first | (with_reducible first | exact HB.out | apply below_alloc | apply pw_below_drewN | apply below_drew1 | refine below_set ?_ (IsS60.ge HI0.out) | refine below_set ?_ GE184.out | refine below_set ?_ GE194.out) | exact HB.out)) HL.out hb); have n5_ := Aside0.mk (KeepBut.trans (by repeat (first | (with_reducible first | exact HK.out | apply KeepBut.set_ | apply keep_drewN | apply keep_drew | apply keep_alloc | refine keep_far ?_ GW184.out _ | refine keep_far ?_ GW194.out _) | exact HK.out)) (KeepBut.of_grown hg g) (Kd.R_base2 HO_195004.out)); have n6_ := Aside0.mk (ho); clear BK184; clear BK194; clear HI0; clear HO201; clear HB; clear HK; clear HO_195004; have BK184 := n0_; have BK194 := n1_; have HI0 := n2_; have HO201 := n3_; have HB := n4_; have HK := n5_; have HO205 := n6_; clear n0_ n1_ n2_ n3_ n4_ n5_ n6_; clear ho hb hg hat; obtain ⟨Ao50, co50, eo50⟩ := Kd.R_slice HO205.out; subst eo50; have hcz51_0 : w49.cell? ⟨gb194, 0, none⟩ = some (.int .i64 t188) := (blk_cell BK194.out 0).trans rfl; have hcz51_1 : w49.cell? ⟨gb194, 1, none⟩ = some (.int .i64 t185) := (blk_cell BK194.out 1).trans rfl; have hcz51_2 : w49.cell? ⟨gb194, 2, none⟩ = some (.int .i64 (wrap64 (t185 + t191))) := (blk_cell BK194.out 2).trans rfl; have hcz51_3 : w49.cell? ⟨gb194, 3, none⟩ = some (.slice Ao46 y199.length co46) := (blk_cell BK194.out 3).trans rfl; have hcz51_4 : w49.cell? ⟨gb194, 4, none⟩ = some (.slice Ao48 x195004_1.length co48) := (blk_cell BK194.out 4).trans rfl; have hfz51_0 := blk_frozen BK194.out 0; have hfz51_1 := blk_frozen BK194.out 1; have hfz51_2 := blk_frozen BK194.out 2; have hfz51_3 := blk_frozen BK194.out 3; have hfz51_4 := blk_frozen BK194.out 4))
            go_roundg kj15
            case measure => have := HK1.out; have := HJ15.out; omega
            case rel => exact ⟨(wrap64 (x5_1 + 1)), (t196), (t197), (y199), (y203), (.slice Ao46 y199.length co46), (.slice Ao50 y203.length co50), (by first | rfl | (simp; done) | (simp [*]; done)), H', ⟨by have := HK1.out; have := HJ15.out; omega⟩, ⟨by (with_reducible repeat (first | apply Kd.R_alloc | apply Kd.R_drewN | apply Kd.R_drew)); exact Kd.R_mono (Kd.R_far (p := ⟨gb194, 4, none⟩) (Kd.R_types HO201.out BK194.out (by decide)) (fun _ hk => hk.2) (.slice Ao50 y203.length co50)) (fun _ hk => hk.1.2)⟩, ⟨by (with_reducible repeat (first | apply Kd.R_alloc | apply Kd.R_drewN | apply Kd.R_drew)); exact Kd.R_mono (Kd.R_far (p := ⟨gb194, 4, none⟩) (Kd.R_types HO205.out BK194.out (by decide)) (fun _ hk => hk.2) (.slice Ao50 y203.length co50)) (fun _ hk => hk.1)⟩, ⟨by (with_reducible repeat (first | refine blk_drewN ?_ _ | refine blk_drew ?_ | refine blk_alloc ?_ _)); refine blk_far ?_ NB184_194.out _; (with_reducible repeat (first | refine blk_drewN ?_ _ | refine blk_drew ?_ | refine blk_alloc ?_ _)); exact BK184.out⟩, ⟨by (with_reducible repeat (first | refine blk_drewN ?_ _ | refine blk_drew ?_ | refine blk_alloc ?_ _)); refine blk_put (cs := #[.int .i64 t188, .int .i64 t185, .int .i64 (wrap64 (t185 + t191)), .slice Ao46 y199.length co46, .slice Ao48 x195004_1.length co48]) ?_ 4 _ rfl; (with_reducible repeat (first | refine blk_drewN ?_ _ | refine blk_drew ?_ | refine blk_alloc ?_ _)); exact BK194.out⟩, ⟨by repeat (first | (with_reducible first | exact HI0.out | apply IsS60.alloc | apply IsS60.drewN | apply IsS60.drew | apply IsS60.set_1 | apply IsS60.set_2 | refine IsS60.far ?_ NB0_184.out _ | refine IsS60.far ?_ NB0_194.out _) | exact HI0.out)⟩, ⟨by repeat (first | (with_reducible first | exact HK.out | apply KeepBut.set_ | apply keep_drewN | apply keep_drew | apply keep_alloc | refine keep_far ?_ GW184.out _ | refine keep_far ?_ GW194.out _) | exact HK.out)⟩, ⟨by repeat (first | (with_reducible first | exact HB.out | apply below_alloc | apply pw_below_drewN | apply below_drew1 | refine below_set ?_ (IsS60.ge HI0.out) | refine below_set ?_ GE184.out | refine below_set ?_ GE194.out) | exact HB.out)⟩⟩
           ·rw [if_neg c41] at H
            exact absurd H (by simp)
          ·rw [if_neg c40] at H
           have c40b0 : decide ((x195004_1.length : Int) < 20) = false := decide_eq_false c40
           have c40b1 : decide (x195004_1.length < 20) = false := decide_eq_false (by omega)
           clear c40
           have H' := Aside0.mk H
           clear H
           have hnb52 := NB194_184.out
           have hnc52 := NB184_194.out
           have hnb53 := NB194_0.out
           have hnc53 := NB0_194.out
           have hcz54_0 : wc.cell? ⟨gb194, 0, none⟩ = some (.int .i64 t188) := (blk_cell BK194.out 0).trans rfl
           have hcz54_1 : wc.cell? ⟨gb194, 1, none⟩ = some (.int .i64 t185) := (blk_cell BK194.out 1).trans rfl
           have hcz54_2 : wc.cell? ⟨gb194, 2, none⟩ = some (.int .i64 (wrap64 (t185 + t191))) := (blk_cell BK194.out 2).trans rfl
           have hcz54_3 : wc.cell? ⟨gb194, 3, none⟩ = some (u195003) := (blk_cell BK194.out 3).trans rfl
           have hcz54_4 : wc.cell? ⟨gb194, 4, none⟩ = some (u195004) := (blk_cell BK194.out 4).trans rfl
           have hfz54_0 := blk_frozen BK194.out 0
           have hfz54_1 := blk_frozen BK194.out 1
           have hfz54_2 := blk_frozen BK194.out 2
           have hfz54_3 := blk_frozen BK194.out 3
           have hfz54_4 := blk_frozen BK194.out 4
           go_wp2_with (first | ((with_reducible refine gate_builtin (b := .append) (xs := #[.tmp 37, .tmp 39]) rfl ?_); (try (refine gate_guard (by rfl) ?_; dsimp only)); at_builtin; refine Kd.R_append (Kd.int .i64) w.heap.size rfl (.tmp 37) (.tmp 39) 22 3 (.int .i64 0) 8 rfl Try.underlying22 info3 rfl (by decide) (by omega) u195003 x195003_1 x5_1 [.int .i64 x5_1] (fun k_ => some k_ ≠ (u195004 : Value).ownBlock) (fun _ => False) rfl rfl ?aP (fun _ hk => hk.elim) ?aF ?aO (Below.refl _ _) ?aS ?aL ?_; (case aP => exact rfl); (case aF => exact (fun k_ hk => Kd.fresh' (Kd.R_lt (by (with_reducible repeat (first | apply Kd.R_alloc | apply Kd.R_drewN | apply Kd.R_drew)); exact HO_195004.out)) k_ hk)); (case aO => exact (by (with_reducible repeat (first | apply Kd.R_alloc | apply Kd.R_drewN | apply Kd.R_drew)); exact HO_195003.out)); (case aS => exact (keep_size (w := w) (g := g) (row := none) (by repeat (first | (with_reducible first | exact HK.out | apply KeepBut.set_ | apply keep_drewN | apply keep_drew | apply keep_alloc | refine keep_far ?_ GW184.out _ | refine keep_far ?_ GW194.out _) | exact HK.out)))); (case aL => have := LMc31.out; omega); intro v200 w55 ho hb hg hat; rw [← Ny199.out] at ho; have n0_ := Aside0.mk (Kd.R_after (ok := (fun _ => True)) (by (with_reducible repeat (first | apply Kd.R_alloc | apply Kd.R_drewN | apply Kd.R_drew)); exact Kd.R_mono HO_195004.out (fun _ hk => ⟨trivial, hk⟩)) hg hat); have n1_ := Aside0.mk (blk_grown (g := gb184) (o := .cells #[.int .i64 0, .int .i64 0, .int .i64 0, .slice none 0 0, .slice none 0 0] 27 (0, 0)) (by (with_reducible repeat (first | refine blk_drewN ?_ _ | refine blk_drew ?_ | refine blk_alloc ?_ _)); exact BK184.out) hg (Kd.R_ne HO_195003.out BK184.out (by decide))); have n2_ := Aside0.mk (blk_grown (g := gb194) (o := .cells #[.int .i64 t188, .int .i64 t185, .int .i64 (wrap64 (t185 + t191)), u195003, u195004] 27 (0, 0)) (by (with_reducible repeat (first | refine blk_drewN ?_ _ | refine blk_drew ?_ | refine blk_alloc ?_ _)); exact BK194.out) hg (Kd.R_ne HO_195003.out BK194.out (by decide))); have n3_ := Aside0.mk (IsS60.grown (by (first | (with_reducible exact IsS60.drewN (IsS60.far HI0.out NB0_184.out _) _) | (with_reducible exact IsS60.far HI0.out NB0_184.out _) | (with_reducible exact IsS60.drewN (IsS60.far HI0.out NB0_194.out _) _) | (with_reducible exact IsS60.far HI0.out NB0_194.out _) | skip); repeat (first | (with_reducible first | exact HI0.out | apply IsS60.alloc | apply IsS60.drewN | apply IsS60.drew | apply IsS60.set_1 | apply IsS60.set_2 | refine IsS60.far ?_ NB0_184.out _ | refine IsS60.far ?_ NB0_194.out _) | exact HI0.out)) hg (IsS60.own_ne HI0.out HO_195003.out (by decide))); have n4_ := Aside0.mk (below_weaken (by repeat (first | (with_reducible first | exact HB.out | apply below_alloc | apply pw_below_drewN | apply below_drew1 | refine below_set ?_ (IsS60.ge HI0.out) | refine below_set ?_ GE184.out | refine below_set ?_ GE194.out) | exact HB.out)) HL.out hb); have n5_ := Aside0.mk (KeepBut.trans (by repeat (first | (with_reducible first | exact HK.out | apply KeepBut.set_ | apply keep_drewN | apply keep_drew | apply keep_alloc | refine keep_far ?_ GW184.out _ | refine keep_far ?_ GW194.out _) | exact HK.out)) (KeepBut.of_grown hg g) (Kd.R_base2 HO_195003.out)); have n6_ := Aside0.mk (ho); clear HO_195004; clear BK184; clear BK194; clear HI0; clear HB; clear HK; clear HO_195003; have HO_195004 := n0_; have BK184 := n1_; have BK194 := n2_; have HI0 := n3_; have HB := n4_; have HK := n5_; have HO201 := n6_; clear n0_ n1_ n2_ n3_ n4_ n5_ n6_; clear ho hb hg hat; obtain ⟨Ao56, co56, eo56⟩ := Kd.R_slice HO201.out; subst eo56; have hcz57_0 : w55.cell? ⟨gb194, 0, none⟩ = some (.int .i64 t188) := (blk_cell BK194.out 0).trans rfl; have hcz57_1 : w55.cell? ⟨gb194, 1, none⟩ = some (.int .i64 t185) := (blk_cell BK194.out 1).trans rfl; have hcz57_2 : w55.cell? ⟨gb194, 2, none⟩ = some (.int .i64 (wrap64 (t185 + t191))) := (blk_cell BK194.out 2).trans rfl; have hcz57_3 : w55.cell? ⟨gb194, 3, none⟩ = some (u195003) := (blk_cell BK194.out 3).trans rfl; have hcz57_4 : w55.cell? ⟨gb194, 4, none⟩ = some (u195004) := (blk_cell BK194.out 4).trans rfl; have hfz57_0 := blk_frozen BK194.out 0; have hfz57_1 := blk_frozen BK194.out 1; have hfz57_2 := blk_frozen BK194.out 2; have hfz57_3 := blk_frozen BK194.out 3; have hfz57_4 := blk_frozen BK194.out 4) | ((with_reducible refine gate_callee (f := 40) rfl ?_); refine goesL_ (some 45) rfl rfl Try.func40 (by kernel_rfl) rfl #[.int .i64 t188, .int .i64 x5_1] rfl (by (try simp only [List.map_toArray, List.map_cons, List.map_nil]); first | done | rfl | (simp only [List.length_drop, List.length_take]; rfl)) ?_; (with_reducible refine (spec_l01Week.calls t188 x5_1 false _ A32.out).mono ?_); rintro e w' ⟨rfl, ⟨nd, rfl⟩⟩; refine ⟨_, rfl, ?_⟩; obtain ⟨Ao58, co58, eo58⟩ := Kd.R_slice HO_195004.out; subst eo58))
           go_roundg kj15
           case measure => have := HK1.out; have := HJ15.out; omega
           case rel => exact ⟨(wrap64 (x5_1 + 1)), (t196), (t197), (y199), (x195004_1), (.slice Ao56 y199.length co56), (.slice Ao58 x195004_1.length co58), (by first | rfl | (simp; done) | (simp [*]; done)), H', ⟨by have := HK1.out; have := HJ15.out; omega⟩, ⟨by (with_reducible repeat (first | apply Kd.R_alloc | apply Kd.R_drewN | apply Kd.R_drew)); exact Kd.R_mono (Kd.R_far (p := ⟨gb194, 3, none⟩) (Kd.R_types HO201.out BK194.out (by decide)) (fun _ hk => hk.2) (.slice Ao56 y199.length co56)) (fun _ hk => hk.1)⟩, ⟨by (with_reducible repeat (first | apply Kd.R_alloc | apply Kd.R_drewN | apply Kd.R_drew)); exact Kd.R_mono (Kd.R_far (p := ⟨gb194, 3, none⟩) (Kd.R_types HO_195004.out BK194.out (by decide)) (fun _ hk => hk.2) (.slice Ao56 y199.length co56)) (fun _ hk => hk.1.2)⟩, ⟨by (with_reducible repeat (first | refine blk_drewN ?_ _ | refine blk_drew ?_ | refine blk_alloc ?_ _)); refine blk_far ?_ NB184_194.out _; (with_reducible repeat (first | refine blk_drewN ?_ _ | refine blk_drew ?_ | refine blk_alloc ?_ _)); exact BK184.out⟩, ⟨by (with_reducible repeat (first | refine blk_drewN ?_ _ | refine blk_drew ?_ | refine blk_alloc ?_ _)); refine blk_put (cs := #[.int .i64 t188, .int .i64 t185, .int .i64 (wrap64 (t185 + t191)), u195003, .slice Ao58 x195004_1.length co58]) ?_ 3 _ rfl; (with_reducible repeat (first | refine blk_drewN ?_ _ | refine blk_drew ?_ | refine blk_alloc ?_ _)); exact BK194.out⟩, ⟨by repeat (first | (with_reducible first | exact HI0.out | apply IsS60.alloc | apply IsS60.drewN | apply IsS60.drew | apply IsS60.set_1 | apply IsS60.set_2 | refine IsS60.far ?_ NB0_184.out _ | refine IsS60.far ?_ NB0_194.out _) | exact HI0.out)⟩, ⟨by repeat (first | (with_reducible first | exact HK.out | apply KeepBut.set_ | apply keep_drewN | apply keep_drew | apply keep_alloc | refine keep_far ?_ GW184.out _ | refine keep_far ?_ GW194.out _) | exact HK.out)⟩, ⟨by repeat (first | (with_reducible first | exact HB.out | apply below_alloc | apply pw_below_drewN | apply below_drew1 | refine below_set ?_ (IsS60.ge HI0.out) | refine below_set ?_ GE184.out | refine below_set ?_ GE194.out) | exact HB.out)⟩⟩
        ·rw [if_neg c31] at H
         exact absurd H (by simp)
       ·replace c30 := Bool.eq_false_iff.mpr c30
        subst c30
        have H1 : ((spec_l01Week.f t188 x5_1).bind fun t206 => (if t206 = true then (spec_l01DrawRight.l0 kj15 (wrap64 (x5_1 + 1)) s0_0 t196 t197 t188 t185 (wrap64 (t185 + t191)) x195003_1 x195004_1) else (if (x195004_1.length : Int) < 20 then (if x195004_1.length < 17592186044416 then (spec_l01DrawRight.l0 kj15 (wrap64 (x5_1 + 1)) s0_0 t196 t197 t188 t185 (wrap64 (t185 + t191)) x195003_1 (x195004_1 ++ [x5_1])) else (none)) else (spec_l01DrawRight.l0 kj15 (wrap64 (x5_1 + 1)) s0_0 t196 t197 t188 t185 (wrap64 (t185 + t191)) x195003_1 x195004_1)))) = some (r1, r2, r3, r4, r5, r6, r7) := by (first | (rw [if_neg (show ¬ (false = true) by decide)] at H; exact H) | rfl)
        clear H
        have H := H1
        clear H1
        replace H := Option.bind_eq_some_iff.mp H
        obtain ⟨t206, A590, H⟩ := H
        replace H : (if t206 = true then (spec_l01DrawRight.l0 kj15 (wrap64 (x5_1 + 1)) s0_0 t196 t197 t188 t185 (wrap64 (t185 + t191)) x195003_1 x195004_1) else (if (x195004_1.length : Int) < 20 then (if x195004_1.length < 17592186044416 then (spec_l01DrawRight.l0 kj15 (wrap64 (x5_1 + 1)) s0_0 t196 t197 t188 t185 (wrap64 (t185 + t191)) x195003_1 (x195004_1 ++ [x5_1])) else (none)) else (spec_l01DrawRight.l0 kj15 (wrap64 (x5_1 + 1)) s0_0 t196 t197 t188 t185 (wrap64 (t185 + t191)) x195003_1 x195004_1))) = some (r1, r2, r3, r4, r5, r6, r7) := H
        have A59 := Aside0.mk A590
        clear A590
        by_cases c60 : t206 = true
        ·subst c60
         have H1 : (spec_l01DrawRight.l0 kj15 (wrap64 (x5_1 + 1)) s0_0 t196 t197 t188 t185 (wrap64 (t185 + t191)) x195003_1 x195004_1) = some (r1, r2, r3, r4, r5, r6, r7) := by (first | (rw [if_pos rfl] at H; exact H) | rfl)
         clear H
         have H := H1
         clear H1
         have H' := Aside0.mk H
         clear H
         have hnb61 := NB194_184.out
         have hnc61 := NB184_194.out
         have hnb62 := NB194_0.out
         have hnc62 := NB0_194.out
         have hcz63_0 : wc.cell? ⟨gb194, 0, none⟩ = some (.int .i64 t188) := (blk_cell BK194.out 0).trans rfl
         have hcz63_1 : wc.cell? ⟨gb194, 1, none⟩ = some (.int .i64 t185) := (blk_cell BK194.out 1).trans rfl
         have hcz63_2 : wc.cell? ⟨gb194, 2, none⟩ = some (.int .i64 (wrap64 (t185 + t191))) := (blk_cell BK194.out 2).trans rfl
         have hcz63_3 : wc.cell? ⟨gb194, 3, none⟩ = some (u195003) := (blk_cell BK194.out 3).trans rfl
         have hcz63_4 : wc.cell? ⟨gb194, 4, none⟩ = some (u195004) := (blk_cell BK194.out 4).trans rfl
         have hfz63_0 := blk_frozen BK194.out 0
         have hfz63_1 := blk_frozen BK194.out 1
         have hfz63_2 := blk_frozen BK194.out 2
         have hfz63_3 := blk_frozen BK194.out 3
         have hfz63_4 := blk_frozen BK194.out 4
         go_wp2_with (first | ((with_reducible refine gate_callee (f := 40) rfl ?_); refine goesL_ (some 45) rfl rfl Try.func40 (by kernel_rfl) rfl #[.int .i64 t188, .int .i64 x5_1] rfl (by (try simp only [List.map_toArray, List.map_cons, List.map_nil]); first | done | rfl | (simp only [List.length_drop, List.length_take]; rfl)) ?_; (with_reducible refine (spec_l01Week.calls t188 x5_1 true _ A59.out).mono ?_); rintro e w' ⟨rfl, ⟨nd, rfl⟩⟩; refine ⟨_, rfl, ?_⟩))
         go_roundg kj15
         case measure => have := HK1.out; have := HJ15.out; omega
         case rel => exact ⟨(wrap64 (x5_1 + 1)), (t196), (t197), (x195003_1), (x195004_1), (u195003), (u195004), (by first | rfl | (simp; done) | (simp [*]; done)), H', ⟨by have := HK1.out; have := HJ15.out; omega⟩, ⟨by (with_reducible repeat (first | apply Kd.R_alloc | apply Kd.R_drewN | apply Kd.R_drew)); exact HO_195003.out⟩, ⟨by (with_reducible repeat (first | apply Kd.R_alloc | apply Kd.R_drewN | apply Kd.R_drew)); exact HO_195004.out⟩, ⟨by (with_reducible repeat (first | refine blk_drewN ?_ _ | refine blk_drew ?_ | refine blk_alloc ?_ _)); exact BK184.out⟩, ⟨by (with_reducible repeat (first | refine blk_drewN ?_ _ | refine blk_drew ?_ | refine blk_alloc ?_ _)); exact BK194.out⟩, ⟨by repeat (first | (with_reducible first | exact HI0.out | apply IsS60.alloc | apply IsS60.drewN | apply IsS60.drew | apply IsS60.set_1 | apply IsS60.set_2 | refine IsS60.far ?_ NB0_184.out _ | refine IsS60.far ?_ NB0_194.out _) | exact HI0.out)⟩, ⟨by repeat (first | (with_reducible first | exact HK.out | apply KeepBut.set_ | apply keep_drewN | apply keep_drew | apply keep_alloc | refine keep_far ?_ GW184.out _ | refine keep_far ?_ GW194.out _) | exact HK.out)⟩, ⟨by repeat (first | (with_reducible first | exact HB.out | apply below_alloc | apply pw_below_drewN | apply below_drew1 | refine below_set ?_ (IsS60.ge HI0.out) | refine below_set ?_ GE184.out | refine below_set ?_ GE194.out) | exact HB.out)⟩⟩
        ·replace c60 := Bool.eq_false_iff.mpr c60
         subst c60
         have H1 : (if (x195004_1.length : Int) < 20 then (if x195004_1.length < 17592186044416 then (spec_l01DrawRight.l0 kj15 (wrap64 (x5_1 + 1)) s0_0 t196 t197 t188 t185 (wrap64 (t185 + t191)) x195003_1 (x195004_1 ++ [x5_1])) else (none)) else (spec_l01DrawRight.l0 kj15 (wrap64 (x5_1 + 1)) s0_0 t196 t197 t188 t185 (wrap64 (t185 + t191)) x195003_1 x195004_1)) = some (r1, r2, r3, r4, r5, r6, r7) := by (first | (rw [if_neg (show ¬ (false = true) by decide)] at H; exact H) | rfl)
         clear H
         have H := H1
         clear H1
         by_cases c64 : (x195004_1.length : Int) < 20
         ·rw [if_pos c64] at H
          have c64b0 : decide ((x195004_1.length : Int) < 20) = true := decide_eq_true c64
          have c64b1 : decide (x195004_1.length < 20) = true := decide_eq_true (by omega)
          clear c64
          by_cases c65 : x195004_1.length < 17592186044416
          ·rw [if_pos c65] at H
           have LMc65 := Aside0.mk c65
           clear c65
           obtain ⟨y207, hy207⟩ : ∃ y_ : List Int, y_ = (x195004_1 ++ [x5_1]) := ⟨_, rfl⟩
           replace H : (spec_l01DrawRight.l0 kj15 (wrap64 (x5_1 + 1)) s0_0 t196 t197 t188 t185 (wrap64 (t185 + t191)) x195003_1 y207) = some (r1, r2, r3, r4, r5, r6, r7) := by first | (rw [hy207]; with_reducible exact H) | (have H2_ := (Option.bind_some _ _).symm.trans H; rw [hy207]; with_reducible exact H2_) | (have H2_ := (Option.bind_some _ _).symm.trans H; with_reducible exact H2_) | with_reducible exact H | (rw [hy207]; exact H) | exact H
           have Ny207 := Aside0.mk hy207
           clear hy207
           have H' := Aside0.mk H
           clear H
           have hnb66 := NB194_184.out
           have hnc66 := NB184_194.out
           have hnb67 := NB194_0.out
           have hnc67 := NB0_194.out
           have hcz68_0 : wc.cell? ⟨gb194, 0, none⟩ = some (.int .i64 t188) := (blk_cell BK194.out 0).trans rfl
           have hcz68_1 : wc.cell? ⟨gb194, 1, none⟩ = some (.int .i64 t185) := (blk_cell BK194.out 1).trans rfl
           have hcz68_2 : wc.cell? ⟨gb194, 2, none⟩ = some (.int .i64 (wrap64 (t185 + t191))) := (blk_cell BK194.out 2).trans rfl
           have hcz68_3 : wc.cell? ⟨gb194, 3, none⟩ = some (u195003) := (blk_cell BK194.out 3).trans rfl
           have hcz68_4 : wc.cell? ⟨gb194, 4, none⟩ = some (u195004) := (blk_cell BK194.out 4).trans rfl
           have hfz68_0 := blk_frozen BK194.out 0
           have hfz68_1 := blk_frozen BK194.out 1
           have hfz68_2 := blk_frozen BK194.out 2
           have hfz68_3 := blk_frozen BK194.out 3
           have hfz68_4 := blk_frozen BK194.out 4
           go_wp2_with (first | ((with_reducible refine gate_callee (f := 40) rfl ?_); refine goesL_ (some 45) rfl rfl Try.func40 (by kernel_rfl) rfl #[.int .i64 t188, .int .i64 x5_1] rfl (by (try simp only [List.map_toArray, List.map_cons, List.map_nil]); first | done | rfl | (simp only [List.length_drop, List.length_take]; rfl)) ?_; (with_reducible refine (spec_l01Week.calls t188 x5_1 false _ A59.out).mono ?_); rintro e w' ⟨rfl, ⟨nd, rfl⟩⟩; refine ⟨_, rfl, ?_⟩; (first | (rw [drewN_self wc]; generalize hq_ : World.drewN wc _ = wc; have n0_ : Aside0 (Kd.R (Kd.int .i64) 3 wc w.heap.size (fun k_ => some k_ ≠ (u195004 : Value).ownBlock) u195003 x195003_1) := ⟨by rw [← hq_]; exact (by (with_reducible repeat (first | apply Kd.R_alloc | apply Kd.R_drewN | apply Kd.R_drew)); exact HO_195003.out)⟩; have n1_ : Aside0 (Kd.R (Kd.int .i64) 3 wc w.heap.size (fun k_ => some k_ ≠ (u195003 : Value).ownBlock) u195004 x195004_1) := ⟨by rw [← hq_]; exact (by (with_reducible repeat (first | apply Kd.R_alloc | apply Kd.R_drewN | apply Kd.R_drew)); exact HO_195004.out)⟩; have n2_ : Aside0 (wc.heap[gb184]? = some (.cells #[.int .i64 0, .int .i64 0, .int .i64 0, .slice none 0 0, .slice none 0 0] 27 (0, 0))) := ⟨by rw [← hq_]; exact (by (with_reducible repeat (first | refine blk_drewN ?_ _ | refine blk_drew ?_ | refine blk_alloc ?_ _)); exact BK184.out)⟩; have n3_ : Aside0 (wc.heap[gb194]? = some (.cells #[.int .i64 t188, .int .i64 t185, .int .i64 (wrap64 (t185 + t191)), u195003, u195004] 27 (0, 0))) := ⟨by rw [← hq_]; exact (by (with_reducible repeat (first | refine blk_drewN ?_ _ | refine blk_drew ?_ | refine blk_alloc ?_ _)); exact BK194.out)⟩; have n4_ : Aside0 (IsS60 w0 wc g s0_0 t196 t197) := ⟨by rw [← hq_]; exact (by repeat (first | (with_reducible first | exact HI0.out | apply IsS60.alloc | apply IsS60.drewN | apply IsS60.drew | apply IsS60.set_1 | apply IsS60.set_2 | refine IsS60.far ?_ NB0_184.out _ | refine IsS60.far ?_ NB0_194.out _) | exact HI0.out))⟩; have n5_ : Aside0 (KeepBut w wc g none) := ⟨by rw [← hq_]; exact (by repeat (first | (with_reducible first | exact HK.out | apply KeepBut.set_ | apply keep_drewN | apply keep_drew | apply keep_alloc | refine keep_far ?_ GW184.out _ | refine keep_far ?_ GW194.out _) | exact HK.out))⟩; have n6_ : Aside0 (Below w0.heap.size w0 wc) := ⟨by rw [← hq_]; exact (by repeat (first | (with_reducible first | exact HB.out | apply below_alloc | apply pw_below_drewN | apply below_drew1 | refine below_set ?_ (IsS60.ge HI0.out) | refine below_set ?_ GE184.out | refine below_set ?_ GE194.out) | exact HB.out))⟩; clear HO_195003 HO_195004 BK184 BK194 HI0 HK HB hq_; have HO_195003 := n0_; have HO_195004 := n1_; have BK184 := n2_; have BK194 := n3_; have HI0 := n4_; have HK := n5_; have HB := n6_; clear n0_ n1_ n2_ n3_ n4_ n5_ n6_) | (have n0_ : Aside0 (Kd.R (Kd.int .i64) 3 wc w.heap.size (fun k_ => some k_ ≠ (u195004 : Value).ownBlock) u195003 x195003_1) := ⟨(by (with_reducible repeat (first | apply Kd.R_alloc | apply Kd.R_drewN | apply Kd.R_drew)); exact HO_195003.out)⟩; have n1_ : Aside0 (Kd.R (Kd.int .i64) 3 wc w.heap.size (fun k_ => some k_ ≠ (u195003 : Value).ownBlock) u195004 x195004_1) := ⟨(by (with_reducible repeat (first | apply Kd.R_alloc | apply Kd.R_drewN | apply Kd.R_drew)); exact HO_195004.out)⟩; have n2_ : Aside0 (wc.heap[gb184]? = some (.cells #[.int .i64 0, .int .i64 0, .int .i64 0, .slice none 0 0, .slice none 0 0] 27 (0, 0))) := ⟨(by (with_reducible repeat (first | refine blk_drewN ?_ _ | refine blk_drew ?_ | refine blk_alloc ?_ _)); exact BK184.out)⟩; have n3_ : Aside0 (wc.heap[gb194]? = some (.cells #[.int .i64 t188, .int .i64 t185, .int .i64 (wrap64 (t185 + t191)), u195003, u195004] 27 (0, 0))) := ⟨(by (with_reducible repeat (first | refine blk_drewN ?_ _ | refine blk_drew ?_ | refine blk_alloc ?_ _)); exact BK194.out)⟩; have n4_ : Aside0 (IsS60 w0 wc g s0_0 t196 t197) := ⟨(by repeat (first | (with_reducible first | exact HI0.out | apply IsS60.alloc | apply IsS60.drewN | apply IsS60.drew | apply IsS60.set_1 | apply IsS60.set_2 | refine IsS60.far ?_ NB0_184.out _ | refine IsS60.far ?_ NB0_194.out _) | exact HI0.out))⟩; have n5_ : Aside0 (KeepBut w wc g none) := ⟨(by repeat (first | (with_reducible first | exact HK.out | apply KeepBut.set_ | apply keep_drewN | apply keep_drew | apply keep_alloc | refine keep_far ?_ GW184.out _ | refine keep_far ?_ GW194.out _) | exact HK.out))⟩; have n6_ : Aside0 (Below w0.heap.size w0 wc) := ⟨(by repeat (first | (with_reducible first | exact HB.out | apply below_alloc | apply pw_below_drewN | apply below_drew1 | refine below_set ?_ (IsS60.ge HI0.out) | refine below_set ?_ GE184.out | refine below_set ?_ GE194.out) | exact HB.out))⟩; clear HO_195003 HO_195004 BK184 BK194 HI0 HK HB; have HO_195003 := n0_; have HO_195004 := n1_; have BK184 := n2_; have BK194 := n3_; have HI0 := n4_; have HK := n5_; have HB := n6_; clear n0_ n1_ n2_ n3_ n4_ n5_ n6_)); have hcz69_0 : wc.cell? ⟨gb194, 0, none⟩ = some (.int .i64 t188) := (blk_cell BK194.out 0).trans rfl; have hcz69_1 : wc.cell? ⟨gb194, 1, none⟩ = some (.int .i64 t185) := (blk_cell BK194.out 1).trans rfl; have hcz69_2 : wc.cell? ⟨gb194, 2, none⟩ = some (.int .i64 (wrap64 (t185 + t191))) := (blk_cell BK194.out 2).trans rfl; have hcz69_3 : wc.cell? ⟨gb194, 3, none⟩ = some (u195003) := (blk_cell BK194.out 3).trans rfl; have hcz69_4 : wc.cell? ⟨gb194, 4, none⟩ = some (u195004) := (blk_cell BK194.out 4).trans rfl; have hfz69_0 := blk_frozen BK194.out 0; have hfz69_1 := blk_frozen BK194.out 1; have hfz69_2 := blk_frozen BK194.out 2; have hfz69_3 := blk_frozen BK194.out 3; have hfz69_4 := blk_frozen BK194.out 4; obtain ⟨Ao70, co70, eo70⟩ := Kd.R_slice HO_195004.out; subst eo70) | ((with_reducible refine gate_builtin (b := .append) (xs := #[.tmp 54, .tmp 56]) rfl ?_); (try (refine gate_guard (by rfl) ?_; dsimp only)); at_builtin; refine Kd.R_append (Kd.int .i64) w.heap.size rfl (.tmp 54) (.tmp 56) 22 3 (.int .i64 0) 8 rfl Try.underlying22 info3 rfl (by decide) (by omega) (.slice Ao70 x195004_1.length co70) x195004_1 x5_1 [.int .i64 x5_1] (fun k_ => some k_ ≠ (u195003 : Value).ownBlock) (fun _ => False) rfl rfl ?aP (fun _ hk => hk.elim) ?aF ?aO (Below.refl _ _) ?aS ?aL ?_; (case aP => exact rfl); (case aF => exact (fun k_ hk => Kd.fresh' (Kd.R_lt (by (with_reducible repeat (first | apply Kd.R_alloc | apply Kd.R_drewN | apply Kd.R_drew)); exact HO_195003.out)) k_ hk)); (case aO => exact (by (with_reducible repeat (first | apply Kd.R_alloc | apply Kd.R_drewN | apply Kd.R_drew)); exact HO_195004.out)); (case aS => exact (keep_size (w := w) (g := g) (row := none) (by repeat (first | (with_reducible first | exact HK.out | apply KeepBut.set_ | apply keep_drewN | apply keep_drew | apply keep_alloc | refine keep_far ?_ GW184.out _ | refine keep_far ?_ GW194.out _) | exact HK.out)))); (case aL => have := LMc65.out; omega); intro v208 w71 ho hb hg hat; rw [← Ny207.out] at ho; have n0_ := Aside0.mk (Kd.R_after (ok := (fun _ => True)) (by (with_reducible repeat (first | apply Kd.R_alloc | apply Kd.R_drewN | apply Kd.R_drew)); exact Kd.R_mono HO_195003.out (fun _ hk => ⟨trivial, hk⟩)) hg hat); have n1_ := Aside0.mk (blk_grown (g := gb184) (o := .cells #[.int .i64 0, .int .i64 0, .int .i64 0, .slice none 0 0, .slice none 0 0] 27 (0, 0)) (by (with_reducible repeat (first | refine blk_drewN ?_ _ | refine blk_drew ?_ | refine blk_alloc ?_ _)); exact BK184.out) hg (Kd.R_ne HO_195004.out BK184.out (by decide))); have n2_ := Aside0.mk (blk_grown (g := gb194) (o := .cells #[.int .i64 t188, .int .i64 t185, .int .i64 (wrap64 (t185 + t191)), u195003, .slice Ao70 x195004_1.length co70] 27 (0, 0)) (by (with_reducible repeat (first | refine blk_drewN ?_ _ | refine blk_drew ?_ | refine blk_alloc ?_ _)); exact BK194.out) hg (Kd.R_ne HO_195004.out BK194.out (by decide))); have n3_ := Aside0.mk (IsS60.grown (by (first | (with_reducible exact IsS60.drewN (IsS60.far HI0.out NB0_184.out _) _) | (with_reducible exact IsS60.far HI0.out NB0_184.out _) | (with_reducible exact IsS60.drewN (IsS60.far HI0.out NB0_194.out _) _) | (with_reducible exact IsS60.far HI0.out NB0_194.out _) | skip); repeat (first | (with_reducible first | exact HI0.out | apply IsS60.alloc | apply IsS60.drewN | apply IsS60.drew | apply IsS60.set_1 | apply IsS60.set_2 | refine IsS60.far ?_ NB0_184.out _ | refine IsS60.far ?_ NB0_194.out _) | exact HI0.out)) hg (IsS60.own_ne HI0.out HO_195004.out (by decide))); have n4_ := Aside0.mk (below_weaken (by repeat (first | (with_reducible first | exact HB.out | apply below_alloc | apply pw_below_drewN | apply below_drew1 | refine below_set ?_ (IsS60.ge HI0.out) | refine below_set ?_ GE184.out | refine below_set ?_ GE194.out) | exact HB.out)) HL.out hb); have n5_ := Aside0.mk (KeepBut.trans (by repeat (first | (with_reducible first | exact HK.out | apply KeepBut.set_ | apply keep_drewN | apply keep_drew | apply keep_alloc | refine keep_far ?_ GW184.out _ | refine keep_far ?_ GW194.out _) | exact HK.out)) (KeepBut.of_grown hg g) (Kd.R_base2 HO_195004.out)); have n6_ := Aside0.mk (ho); clear HO_195003; clear BK184; clear BK194; clear HI0; clear HB; clear HK; clear HO_195004; have HO_195003 := n0_; have BK184 := n1_; have BK194 := n2_; have HI0 := n3_; have HB := n4_; have HK := n5_; have HO209 := n6_; clear n0_ n1_ n2_ n3_ n4_ n5_ n6_; clear ho hb hg hat; obtain ⟨Ao72, co72, eo72⟩ := Kd.R_slice HO209.out; subst eo72; have hcz73_0 : w71.cell? ⟨gb194, 0, none⟩ = some (.int .i64 t188) := (blk_cell BK194.out 0).trans rfl; have hcz73_1 : w71.cell? ⟨gb194, 1, none⟩ = some (.int .i64 t185) := (blk_cell BK194.out 1).trans rfl; have hcz73_2 : w71.cell? ⟨gb194, 2, none⟩ = some (.int .i64 (wrap64 (t185 + t191))) := (blk_cell BK194.out 2).trans rfl; have hcz73_3 : w71.cell? ⟨gb194, 3, none⟩ = some (u195003) := (blk_cell BK194.out 3).trans rfl; have hcz73_4 : w71.cell? ⟨gb194, 4, none⟩ = some (.slice Ao70 x195004_1.length co70) := (blk_cell BK194.out 4).trans rfl; have hfz73_0 := blk_frozen BK194.out 0; have hfz73_1 := blk_frozen BK194.out 1; have hfz73_2 := blk_frozen BK194.out 2; have hfz73_3 := blk_frozen BK194.out 3; have hfz73_4 := blk_frozen BK194.out 4))
           go_roundg kj15
           case measure => have := HK1.out; have := HJ15.out; omega
           case rel => exact ⟨(wrap64 (x5_1 + 1)), (t196), (t197), (x195003_1), (y207), (u195003), (.slice Ao72 y207.length co72), (by first | rfl | (simp; done) | (simp [*]; done)), H', ⟨by have := HK1.out; have := HJ15.out; omega⟩, ⟨by (with_reducible repeat (first | apply Kd.R_alloc | apply Kd.R_drewN | apply Kd.R_drew)); exact Kd.R_mono (Kd.R_far (p := ⟨gb194, 4, none⟩) (Kd.R_types HO_195003.out BK194.out (by decide)) (fun _ hk => hk.2) (.slice Ao72 y207.length co72)) (fun _ hk => hk.1.2)⟩, ⟨by (with_reducible repeat (first | apply Kd.R_alloc | apply Kd.R_drewN | apply Kd.R_drew)); exact Kd.R_mono (Kd.R_far (p := ⟨gb194, 4, none⟩) (Kd.R_types HO209.out BK194.out (by decide)) (fun _ hk => hk.2) (.slice Ao72 y207.length co72)) (fun _ hk => hk.1)⟩, ⟨by (with_reducible repeat (first | refine blk_drewN ?_ _ | refine blk_drew ?_ | refine blk_alloc ?_ _)); refine blk_far ?_ NB184_194.out _; (with_reducible repeat (first | refine blk_drewN ?_ _ | refine blk_drew ?_ | refine blk_alloc ?_ _)); exact BK184.out⟩, ⟨by (with_reducible repeat (first | refine blk_drewN ?_ _ | refine blk_drew ?_ | refine blk_alloc ?_ _)); refine blk_put (cs := #[.int .i64 t188, .int .i64 t185, .int .i64 (wrap64 (t185 + t191)), u195003, .slice Ao70 x195004_1.length co70]) ?_ 4 _ rfl; (with_reducible repeat (first | refine blk_drewN ?_ _ | refine blk_drew ?_ | refine blk_alloc ?_ _)); exact BK194.out⟩, ⟨by repeat (first | (with_reducible first | exact HI0.out | apply IsS60.alloc | apply IsS60.drewN | apply IsS60.drew | apply IsS60.set_1 | apply IsS60.set_2 | refine IsS60.far ?_ NB0_184.out _ | refine IsS60.far ?_ NB0_194.out _) | exact HI0.out)⟩, ⟨by repeat (first | (with_reducible first | exact HK.out | apply KeepBut.set_ | apply keep_drewN | apply keep_drew | apply keep_alloc | refine keep_far ?_ GW184.out _ | refine keep_far ?_ GW194.out _) | exact HK.out)⟩, ⟨by repeat (first | (with_reducible first | exact HB.out | apply below_alloc | apply pw_below_drewN | apply below_drew1 | refine below_set ?_ (IsS60.ge HI0.out) | refine below_set ?_ GE184.out | refine below_set ?_ GE194.out) | exact HB.out)⟩⟩
          ·rw [if_neg c65] at H
           exact absurd H (by simp)
         ·rw [if_neg c64] at H
          have c64b0 : decide ((x195004_1.length : Int) < 20) = false := decide_eq_false c64
          have c64b1 : decide (x195004_1.length < 20) = false := decide_eq_false (by omega)
          clear c64
          have H' := Aside0.mk H
          clear H
          have hnb74 := NB194_184.out
          have hnc74 := NB184_194.out
          have hnb75 := NB194_0.out
          have hnc75 := NB0_194.out
          have hcz76_0 : wc.cell? ⟨gb194, 0, none⟩ = some (.int .i64 t188) := (blk_cell BK194.out 0).trans rfl
          have hcz76_1 : wc.cell? ⟨gb194, 1, none⟩ = some (.int .i64 t185) := (blk_cell BK194.out 1).trans rfl
          have hcz76_2 : wc.cell? ⟨gb194, 2, none⟩ = some (.int .i64 (wrap64 (t185 + t191))) := (blk_cell BK194.out 2).trans rfl
          have hcz76_3 : wc.cell? ⟨gb194, 3, none⟩ = some (u195003) := (blk_cell BK194.out 3).trans rfl
          have hcz76_4 : wc.cell? ⟨gb194, 4, none⟩ = some (u195004) := (blk_cell BK194.out 4).trans rfl
          have hfz76_0 := blk_frozen BK194.out 0
          have hfz76_1 := blk_frozen BK194.out 1
          have hfz76_2 := blk_frozen BK194.out 2
          have hfz76_3 := blk_frozen BK194.out 3
          have hfz76_4 := blk_frozen BK194.out 4
          go_wp2_with (first | ((with_reducible refine gate_callee (f := 40) rfl ?_); refine goesL_ (some 45) rfl rfl Try.func40 (by kernel_rfl) rfl #[.int .i64 t188, .int .i64 x5_1] rfl (by (try simp only [List.map_toArray, List.map_cons, List.map_nil]); first | done | rfl | (simp only [List.length_drop, List.length_take]; rfl)) ?_; (with_reducible refine (spec_l01Week.calls t188 x5_1 false _ A59.out).mono ?_); rintro e w' ⟨rfl, ⟨nd, rfl⟩⟩; refine ⟨_, rfl, ?_⟩; obtain ⟨Ao77, co77, eo77⟩ := Kd.R_slice HO_195004.out; subst eo77))
          go_roundg kj15
          case measure => have := HK1.out; have := HJ15.out; omega
          case rel => exact ⟨(wrap64 (x5_1 + 1)), (t196), (t197), (x195003_1), (x195004_1), (u195003), (.slice Ao77 x195004_1.length co77), (by first | rfl | (simp; done) | (simp [*]; done)), H', ⟨by have := HK1.out; have := HJ15.out; omega⟩, ⟨by (with_reducible repeat (first | apply Kd.R_alloc | apply Kd.R_drewN | apply Kd.R_drew)); exact HO_195003.out⟩, ⟨by (with_reducible repeat (first | apply Kd.R_alloc | apply Kd.R_drewN | apply Kd.R_drew)); exact HO_195004.out⟩, ⟨by (with_reducible repeat (first | refine blk_drewN ?_ _ | refine blk_drew ?_ | refine blk_alloc ?_ _)); exact BK184.out⟩, ⟨by (with_reducible repeat (first | refine blk_drewN ?_ _ | refine blk_drew ?_ | refine blk_alloc ?_ _)); exact BK194.out⟩, ⟨by repeat (first | (with_reducible first | exact HI0.out | apply IsS60.alloc | apply IsS60.drewN | apply IsS60.drew | apply IsS60.set_1 | apply IsS60.set_2 | refine IsS60.far ?_ NB0_184.out _ | refine IsS60.far ?_ NB0_194.out _) | exact HI0.out)⟩, ⟨by repeat (first | (with_reducible first | exact HK.out | apply KeepBut.set_ | apply keep_drewN | apply keep_drew | apply keep_alloc | refine keep_far ?_ GW184.out _ | refine keep_far ?_ GW194.out _) | exact HK.out)⟩, ⟨by repeat (first | (with_reducible first | exact HB.out | apply below_alloc | apply pw_below_drewN | apply below_drew1 | refine below_set ?_ (IsS60.ge HI0.out) | refine below_set ?_ GE184.out | refine below_set ?_ GE194.out) | exact HB.out)⟩⟩
    ·replace c15 := Bool.eq_false_iff.mpr c15
     subst c15
     have H1 : (spec_l01DrawRight.l0 k1 (wrap64 (x5_1 + 1)) s0_0 t196 t197 t188 t185 (wrap64 (t185 + t191)) x195003_1 x195004_1) = some (r1, r2, r3, r4, r5, r6, r7) := by (first | (rw [if_neg (show ¬ (false = true) by decide)] at H; exact H) | rfl)
     clear H
     have H := H1
     clear H1
     have H' := Aside0.mk H
     clear H
     have hnb78 := NB194_184.out
     have hnc78 := NB184_194.out
     have hnb79 := NB194_0.out
     have hnc79 := NB0_194.out
     have hcz80_0 : wr.cell? ⟨gb194, 0, none⟩ = some (.int .i64 t188) := (blk_cell BK194.out 0).trans rfl
     have hcz80_1 : wr.cell? ⟨gb194, 1, none⟩ = some (.int .i64 t185) := (blk_cell BK194.out 1).trans rfl
     have hcz80_2 : wr.cell? ⟨gb194, 2, none⟩ = some (.int .i64 (wrap64 (t185 + t191))) := (blk_cell BK194.out 2).trans rfl
     have hcz80_3 : wr.cell? ⟨gb194, 3, none⟩ = some (u195003) := (blk_cell BK194.out 3).trans rfl
     have hcz80_4 : wr.cell? ⟨gb194, 4, none⟩ = some (u195004) := (blk_cell BK194.out 4).trans rfl
     have hfz80_0 := blk_frozen BK194.out 0
     have hfz80_1 := blk_frozen BK194.out 1
     have hfz80_2 := blk_frozen BK194.out 2
     have hfz80_3 := blk_frozen BK194.out 3
     have hfz80_4 := blk_frozen BK194.out 4
     go_wp2_with (first | ((with_reducible refine gate_callee (f := 53) rfl ?_); refine goesL_ (some 25) rfl rfl Try.func53 (by kernel_rfl) rfl #[.pointer (some ⟨g, 0, none⟩), .int .i64 9] rfl (by (try simp only [List.map_toArray, List.map_cons, List.map_nil]); first | done | rfl | (simp only [List.length_drop, List.length_take]; rfl)) ?_; (with_reducible refine (spec_l01Once.calls g s0_0 x1001_1 x1002_1 9 false t196 t197 w0 _ ?side1 ?side2 A14.out).mono ?_); (case side1 => repeat (first | (with_reducible first | exact HI0.out | apply IsS60.alloc | apply IsS60.drewN | apply IsS60.drew | apply IsS60.set_1 | apply IsS60.set_2 | refine IsS60.far ?_ NB0_184.out _ | refine IsS60.far ?_ NB0_194.out _) | exact HI0.out)); (case side2 => repeat (first | (with_reducible first | exact HB.out | apply below_alloc | apply pw_below_drewN | apply below_drew1 | refine below_set ?_ (IsS60.ge HI0.out) | refine below_set ?_ GE184.out | refine below_set ?_ GE194.out) | exact HB.out)); rintro e w81 ⟨rfl, hi, hb, hk⟩; refine ⟨_, rfl, ?_⟩; have n0_ := Aside0.mk (Kd.R_mono (Kd.R_keep (IsS60.apart (show IsS60 w0 _ g s0_0 x1001_1 x1002_1 from by repeat (first | (with_reducible first | exact HI0.out | apply IsS60.alloc | apply IsS60.drewN | apply IsS60.drew | apply IsS60.set_1 | apply IsS60.set_2 | refine IsS60.far ?_ NB0_184.out _ | refine IsS60.far ?_ NB0_194.out _) | exact HI0.out)) (by (with_reducible repeat (first | apply Kd.R_alloc | apply Kd.R_drewN | apply Kd.R_drew)); exact HO_195003.out) (by decide)) hk (fun _ h => h.2)) (fun _ h => h.1)); have n1_ := Aside0.mk (Kd.R_mono (Kd.R_keep (IsS60.apart (show IsS60 w0 _ g s0_0 x1001_1 x1002_1 from by repeat (first | (with_reducible first | exact HI0.out | apply IsS60.alloc | apply IsS60.drewN | apply IsS60.drew | apply IsS60.set_1 | apply IsS60.set_2 | refine IsS60.far ?_ NB0_184.out _ | refine IsS60.far ?_ NB0_194.out _) | exact HI0.out)) (by (with_reducible repeat (first | apply Kd.R_alloc | apply Kd.R_drewN | apply Kd.R_drew)); exact HO_195004.out) (by decide)) hk (fun _ h => h.2)) (fun _ h => h.1)); have n2_ := Aside0.mk (KeepBut.blk hk (g' := gb184) (o := .cells #[.int .i64 0, .int .i64 0, .int .i64 0, .slice none 0 0, .slice none 0 0] 27 (0, 0)) (by (with_reducible repeat (first | refine blk_drewN ?_ _ | refine blk_drew ?_ | refine blk_alloc ?_ _)); exact BK184.out) NB184_0.out (by simp)); have n3_ := Aside0.mk (KeepBut.blk hk (g' := gb194) (o := .cells #[.int .i64 t188, .int .i64 t185, .int .i64 (wrap64 (t185 + t191)), u195003, u195004] 27 (0, 0)) (by (with_reducible repeat (first | refine blk_drewN ?_ _ | refine blk_drew ?_ | refine blk_alloc ?_ _)); exact BK194.out) NB194_0.out (by simp)); have n4_ := Aside0.mk (KeepBut.trans (by repeat (first | (with_reducible first | exact HK.out | apply KeepBut.set_ | apply keep_drewN | apply keep_drew | apply keep_alloc | refine keep_far ?_ GW184.out _ | refine keep_far ?_ GW194.out _) | exact HK.out)) hk (.inl rfl)); have n5_ := Aside0.mk (hb); have n6_ := Aside0.mk (hi); clear HO_195003; clear HO_195004; clear BK184; clear BK194; clear HK; clear HB; clear HI0; have HO_195003 := n0_; have HO_195004 := n1_; have BK184 := n2_; have BK194 := n3_; have HK := n4_; have HB := n5_; have HI0 := n6_; clear n0_ n1_ n2_ n3_ n4_ n5_ n6_; (try clear hb); (try clear hb2); (try clear hk); (try clear hi)))
     go_roundg k1
     case measure => have := HK1.out; omega
     case rel => exact ⟨(wrap64 (x5_1 + 1)), (t196), (t197), (x195003_1), (x195004_1), (u195003), (u195004), (by first | rfl | (simp; done) | (simp [*]; done)), H', ⟨by have := HK1.out; omega⟩, ⟨by (with_reducible repeat (first | apply Kd.R_alloc | apply Kd.R_drewN | apply Kd.R_drew)); exact HO_195003.out⟩, ⟨by (with_reducible repeat (first | apply Kd.R_alloc | apply Kd.R_drewN | apply Kd.R_drew)); exact HO_195004.out⟩, ⟨by (with_reducible repeat (first | refine blk_drewN ?_ _ | refine blk_drew ?_ | refine blk_alloc ?_ _)); exact BK184.out⟩, ⟨by (with_reducible repeat (first | refine blk_drewN ?_ _ | refine blk_drew ?_ | refine blk_alloc ?_ _)); exact BK194.out⟩, ⟨by repeat (first | (with_reducible first | exact HI0.out | apply IsS60.alloc | apply IsS60.drewN | apply IsS60.drew | apply IsS60.set_1 | apply IsS60.set_2 | refine IsS60.far ?_ NB0_184.out _ | refine IsS60.far ?_ NB0_194.out _) | exact HI0.out)⟩, ⟨by repeat (first | (with_reducible first | exact HK.out | apply KeepBut.set_ | apply keep_drewN | apply keep_drew | apply keep_alloc | refine keep_far ?_ GW184.out _ | refine keep_far ?_ GW194.out _) | exact HK.out)⟩, ⟨by repeat (first | (with_reducible first | exact HB.out | apply below_alloc | apply pw_below_drewN | apply below_drew1 | refine below_set ?_ (IsS60.ge HI0.out) | refine below_set ?_ GE184.out | refine below_set ?_ GE194.out) | exact HB.out)⟩⟩
   ·rw [if_neg c13] at H
    have c13b0 : decide (x5_1 ≤ (wrap64 (t185 + t191))) = false := decide_eq_false c13
    clear c13
    simp only [Option.some.injEq, Prod.mk.injEq] at H
    obtain ⟨rfl, rfl, rfl, rfl, rfl, rfl, rfl⟩ := H
    have hnb82 := NB194_184.out
    have hnc82 := NB184_194.out
    have hnb83 := NB194_0.out
    have hnc83 := NB0_194.out
    have hcz84_0 : wr.cell? ⟨gb194, 0, none⟩ = some (.int .i64 t188) := (blk_cell BK194.out 0).trans rfl
    have hcz84_1 : wr.cell? ⟨gb194, 1, none⟩ = some (.int .i64 t185) := (blk_cell BK194.out 1).trans rfl
    have hcz84_2 : wr.cell? ⟨gb194, 2, none⟩ = some (.int .i64 (wrap64 (t185 + t191))) := (blk_cell BK194.out 2).trans rfl
    have hcz84_3 : wr.cell? ⟨gb194, 3, none⟩ = some (u195003) := (blk_cell BK194.out 3).trans rfl
    have hcz84_4 : wr.cell? ⟨gb194, 4, none⟩ = some (u195004) := (blk_cell BK194.out 4).trans rfl
    have hfz84_0 := blk_frozen BK194.out 0
    have hfz84_1 := blk_frozen BK194.out 1
    have hfz84_2 := blk_frozen BK194.out 2
    have hfz84_3 := blk_frozen BK194.out 3
    have hfz84_4 := blk_frozen BK194.out 4
    have hnb85 := NB184_0.out
    have hnc85 := NB0_184.out
    have hcz86_0 : wr.cell? ⟨gb184, 0, none⟩ = some (.int .i64 0) := (blk_cell BK184.out 0).trans rfl
    have hcz86_1 : wr.cell? ⟨gb184, 1, none⟩ = some (.int .i64 0) := (blk_cell BK184.out 1).trans rfl
    have hcz86_2 : wr.cell? ⟨gb184, 2, none⟩ = some (.int .i64 0) := (blk_cell BK184.out 2).trans rfl
    have hcz86_3 : wr.cell? ⟨gb184, 3, none⟩ = some (.slice none 0 0) := (blk_cell BK184.out 3).trans rfl
    have hcz86_4 : wr.cell? ⟨gb184, 4, none⟩ = some (.slice none 0 0) := (blk_cell BK184.out 4).trans rfl
    have hfz86_0 := blk_frozen BK184.out 0
    have hfz86_1 := blk_frozen BK184.out 1
    have hfz86_2 := blk_frozen BK184.out 2
    have hfz86_3 := blk_frozen BK184.out 3
    have hfz86_4 := blk_frozen BK184.out 4
    obtain ⟨Ao87, co87, eo87⟩ := Kd.R_slice HO_195003.out
    subst eo87
    obtain ⟨Ao88, co88, eo88⟩ := Kd.R_slice HO_195004.out
    subst eo88
    go_wp2
    refine bodyPost_ret (results_cell_row rfl _ _ gb184 27 #[.int .i64 t188, .int .i64 t185, .int .i64 (wrap64 (t185 + t191)), .slice Ao87 x195003_1.length co87, .slice Ao88 x195004_1.length co88] (0, 0) _ rfl (by (with_reducible repeat (first | refine blk_drewN ?_ _ | refine blk_drew ?_ | refine blk_alloc ?_ _)); refine blk_put (cs := #[.int .i64 t188, .int .i64 t185, .int .i64 (wrap64 (t185 + t191)), .slice Ao87 x195003_1.length co87, .slice none 0 0]) ?_ 4 _ rfl; (with_reducible repeat (first | refine blk_drewN ?_ _ | refine blk_drew ?_ | refine blk_alloc ?_ _)); refine blk_put (cs := #[.int .i64 t188, .int .i64 t185, .int .i64 (wrap64 (t185 + t191)), .slice none 0 0, .slice none 0 0]) ?_ 3 _ rfl; (with_reducible repeat (first | refine blk_drewN ?_ _ | refine blk_drew ?_ | refine blk_alloc ?_ _)); refine blk_put (cs := #[.int .i64 t188, .int .i64 t185, .int .i64 0, .slice none 0 0, .slice none 0 0]) ?_ 2 _ rfl; (with_reducible repeat (first | refine blk_drewN ?_ _ | refine blk_drew ?_ | refine blk_alloc ?_ _)); refine blk_put (cs := #[.int .i64 t188, .int .i64 0, .int .i64 0, .slice none 0 0, .slice none 0 0]) ?_ 1 _ rfl; (with_reducible repeat (first | refine blk_drewN ?_ _ | refine blk_drew ?_ | refine blk_alloc ?_ _)); refine blk_put (cs := #[.int .i64 0, .int .i64 0, .int .i64 0, .slice none 0 0, .slice none 0 0]) ?_ 0 _ rfl; (with_reducible repeat (first | refine blk_drewN ?_ _ | refine blk_drew ?_ | refine blk_alloc ?_ _)); exact BK184.out) Try.underlying27 rfl (by kernel_rfl)) rfl ?_
    exact ⟨_, _, by first | rfl | (simp [errW_none, errW_some] <;> rfl) | (simp [*, errW_none, errW_some] <;> rfl), by (with_reducible repeat (first | apply Kd.R_alloc | apply Kd.R_drewN | apply Kd.R_drew)); exact Kd.R_mono (Kd.R_far (p := ⟨gb184, 4, none⟩) (Kd.R_far (p := ⟨gb184, 3, none⟩) (Kd.R_far (p := ⟨gb184, 2, none⟩) (Kd.R_far (p := ⟨gb184, 1, none⟩) (Kd.R_far (p := ⟨gb184, 0, none⟩) (Kd.R_types HO_195003.out BK184.out (by decide)) (fun _ hk => hk.2) (.int .i64 t188)) (fun _ hk => hk.2) (.int .i64 t185)) (fun _ hk => hk.2) (.int .i64 (wrap64 (t185 + t191)))) (fun _ hk => hk.2) (.slice Ao87 x195003_1.length co87)) (fun _ hk => hk.2) (.slice Ao88 x195004_1.length co88)) (fun _ hk => hk.1), by (with_reducible repeat (first | apply Kd.R_alloc | apply Kd.R_drewN | apply Kd.R_drew)); exact Kd.R_mono (Kd.R_far (p := ⟨gb184, 4, none⟩) (Kd.R_far (p := ⟨gb184, 3, none⟩) (Kd.R_far (p := ⟨gb184, 2, none⟩) (Kd.R_far (p := ⟨gb184, 1, none⟩) (Kd.R_far (p := ⟨gb184, 0, none⟩) (Kd.R_types HO_195004.out BK184.out (by decide)) (fun _ hk => hk.2) (.int .i64 t188)) (fun _ hk => hk.2) (.int .i64 t185)) (fun _ hk => hk.2) (.int .i64 (wrap64 (t185 + t191)))) (fun _ hk => hk.2) (.slice Ao87 x195003_1.length co87)) (fun _ hk => hk.2) (.slice Ao88 x195004_1.length co88)) (fun _ hk => hk.1), by repeat (first | (with_reducible first | exact HI0.out | apply IsS60.alloc | apply IsS60.drewN | apply IsS60.drew | apply IsS60.set_1 | apply IsS60.set_2 | refine IsS60.far ?_ NB0_184.out _ | refine IsS60.far ?_ NB0_194.out _) | exact HI0.out), by repeat (first | (with_reducible first | exact HB.out | apply below_alloc | apply pw_below_drewN | apply below_drew1 | refine below_set ?_ (IsS60.ge HI0.out) | refine below_set ?_ GE184.out | refine below_set ?_ GE194.out) | exact HB.out), by repeat (first | (with_reducible first | exact HK.out | apply KeepBut.set_ | apply keep_drewN | apply keep_drew | apply keep_alloc | refine keep_far ?_ GW184.out _ | refine keep_far ?_ GW194.out _) | exact HK.out)⟩

/-! ### spec_DrawRightPattern: function 27 -/
def spec_DrawRightPattern.f (k : Nat) (l0 : List Int) : Option (Int × Int × Int × List Int × List Int) := (spec_l01New.f k l0).bind fun bt211 => ((spec_l01DrawRight.f k bt211.1 bt211.2.1 bt211.2.2).bind fun bt215 => (some (bt215.1, bt215.2.1, bt215.2.2.1, bt215.2.2.2.1, bt215.2.2.2.2.1)))
theorem spec_DrawRightPattern.mono : ∀ a0 k, LeO (spec_DrawRightPattern.f k a0) (spec_DrawRightPattern.f (k + 1) a0) := by
 intro a0 k
 unfold spec_DrawRightPattern.f
 repeat' first
   | (with_reducible exact spec_l01DrawRight.mono _ _ _ _)
   | (with_reducible exact spec_l01New.mono _ _)
   | (with_reducible exact LeO.refl _)
   | (with_reducible exact LeO.none _)
   | (with_reducible refine LeO.ite ?_ ?_)
   | (with_reducible refine LeO.bind ?_ (fun _ => ?_))
   | exact spec_l01DrawRight.mono _ _ _ _
   | exact spec_l01New.mono _ _
   | exact LeO.none _
   | refine LeO.ite ?_ ?_
   | refine LeO.bind ?_ (fun _ => ?_)
set_option maxHeartbeats 8000000 in
set_option maxRecDepth 100000 in
theorem spec_DrawRightPattern.calls (k : Nat) (A0 : Option Addr) (c0 : Nat) (l0 : List Int) (r1 : Int) (r2 : Int) (r3 : Int) (r4 : List Int) (r5 : List Int) (w : World) (hr0 : Kd.C (Kd.int .u8) w A0 l0.length l0) (hc0 : l0.length ≤ c0) (h : spec_DrawRightPattern.f k l0 = some (r1, r2, r3, r4, r5)) :
  Calls Try.prog 27 #[.slice A0 l0.length c0] w fun e w' => ∃ v3_ v4_ : Value, e = .returned (.agg #[.int .i64 r1, .int .i64 r2, .int .i64 r3, v3_, v4_]) ∧ Kd.R (Kd.int .i64) 3 w' w.heap.size (fun k_ => some k_ ≠ (v4_ : Value).ownBlock) v3_ r4 ∧ Kd.R (Kd.int .i64) 3 w' w.heap.size (fun k_ => some k_ ≠ (v3_ : Value).ownBlock) v4_ r5 ∧ Below w.heap.size w w' := by
 have hu27 := Try.underlying27
 have HR0 := Aside0.mk hr0
 have HC0 := Aside0.mk hc0
 clear hr0 hc0
 have HB := Aside0.mk (Below.refl w.heap.size w)
 have H : ((spec_l01New.f k l0).bind fun bt211 => ((spec_l01DrawRight.f k bt211.1 bt211.2.1 bt211.2.2).bind fun bt215 => (some (bt215.1, bt215.2.1, bt215.2.2.1, bt215.2.2.2.1, bt215.2.2.2.2.1)))) = some (r1, r2, r3, r4, r5) := h
 clear h
 replace H := Option.bind_eq_some_iff.mp H
 obtain ⟨⟨t211, t212, t213⟩, A20, H⟩ := H
 replace H : ((spec_l01DrawRight.f k t211 t212 t213).bind fun bt215 => (some (bt215.1, bt215.2.1, bt215.2.2.1, bt215.2.2.2.1, bt215.2.2.2.2.1))) = some (r1, r2, r3, r4, r5) := H
 have A2 := Aside0.mk A20
 clear A20
 replace H := Option.bind_eq_some_iff.mp H
 obtain ⟨⟨t215, t216, t217, t218, t221, t224, t225⟩, A30, H⟩ := H
 replace H : (some (t215, t216, t217, t218, t221)) = some (r1, r2, r3, r4, r5) := H
 have A3 := Aside0.mk A30
 clear A30
 simp only [Option.some.injEq, Prod.mk.injEq] at H
 obtain ⟨rfl, rfl, rfl, rfl, rfl⟩ := H
 go_enter Try.func27, Try.ntmps27
 go_wp2_with (first | ((with_reducible refine gate_dst (N := 2) rfl ?_); refine box_event ?hg (N := 2) ?hd (cs := #[.int .i64 0, .int .i64 0, .int .i64 0, .slice none 0 0, .slice none 0 0]) (t := 27) ?hr ?_; (case hd => rfl); (case hg => rfl); (case hr => first | (go_simp; done) | (go_simp; rfl)); intro gb210 hg w4 hbox hb; have n0_ := Aside0.mk (below_step (by repeat (first | (with_reducible first | exact HB.out | apply below_alloc | apply pw_below_drewN | apply below_drew1) | exact HB.out)) hb); have n1_ := Aside0.mk (hbox); have n2_ := Aside0.mk ((by rw [hg]; exact (below_size (by repeat (first | (with_reducible first | exact HB.out | apply below_alloc | apply pw_below_drewN | apply below_drew1) | exact HB.out))) : w.heap.size ≤ gb210)); have n3_ := Aside0.mk ((by rw [hg]; exact (below_size (by repeat (first | (with_reducible first | exact HB.out | apply below_alloc | apply pw_below_drewN | apply below_drew1) | exact HB.out))) : w.heap.size ≤ gb210)); clear HB; have HB := n0_; have BK210 := n1_; have GW210 := n2_; have GE210 := n3_; clear n0_ n1_ n2_ n3_; clear hb hbox hg) | ((with_reducible refine gate_callee (f := 48) rfl ?_); refine goesL_ (some 5) rfl rfl Try.func48 (by kernel_rfl) rfl #[.slice A0 l0.length c0] rfl (by (try simp only [List.map_toArray, List.map_cons, List.map_nil]); first | done | rfl | (simp only [List.length_drop, List.length_take]; rfl)) ?_; (with_reducible refine (spec_l01New.calls k _ _ l0 t211 t212 t213 w _ ?side1 ?side2 ?side3 A2.out).mono ?_); (case side1 => repeat (first | (with_reducible first | exact HB.out | apply below_alloc | apply pw_below_drewN | apply below_drew1 | refine below_set ?_ GE210.out) | exact HB.out)); (case side2 => exact HR0.out); (case side3 => exact HC0.out); rintro e w5 ⟨g214, rfl, hi, hb, hb2⟩; refine ⟨_, rfl, ?_⟩; have n0_ := Aside0.mk (blk_below (g := gb210) (o := .cells #[.int .i64 0, .int .i64 0, .int .i64 0, .slice none 0 0, .slice none 0 0] 27 (0, 0)) (by (with_reducible repeat (first | refine blk_drewN ?_ _ | refine blk_drew ?_ | refine blk_alloc ?_ _)); exact BK210.out) hb2); have n1_ := Aside0.mk (hb); have n2_ := Aside0.mk (hi); have n3_ := Aside0.mk (IsS60.ne_blk hi (blk_below (g := gb210) (o := .cells #[.int .i64 0, .int .i64 0, .int .i64 0, .slice none 0 0, .slice none 0 0] 27 (0, 0)) (by (with_reducible repeat (first | refine blk_drewN ?_ _ | refine blk_drew ?_ | refine blk_alloc ?_ _)); exact BK210.out) hb2) (by decide)); have n4_ := Aside0.mk (Ne.symm (IsS60.ne_blk hi (blk_below (g := gb210) (o := .cells #[.int .i64 0, .int .i64 0, .int .i64 0, .slice none 0 0, .slice none 0 0] 27 (0, 0)) (by (with_reducible repeat (first | refine blk_drewN ?_ _ | refine blk_drew ?_ | refine blk_alloc ?_ _)); exact BK210.out) hb2) (by decide))); clear BK210; clear HB; have BK210 := n0_; have HB := n1_; have HI214 := n2_; have NB214_210 := n3_; have NB210_214 := n4_; clear n0_ n1_ n2_ n3_ n4_; (try clear hb); (try clear hb2); (try clear hk); (try clear hi)) | ((with_reducible refine gate_callee (f := 49) rfl ?_); refine goesL_ (some 7) rfl rfl Try.func49 (by kernel_rfl) rfl #[.pointer (some ⟨g214, 0, none⟩)] rfl (by (try simp only [List.map_toArray, List.map_cons, List.map_nil]); first | done | rfl | (simp only [List.length_drop, List.length_take]; rfl)) ?_; (with_reducible refine (spec_l01DrawRight.calls k g214 t211 t212 t213 t215 t216 t217 t218 t221 t224 t225 w _ ?side1 ?side2 A3.out).mono ?_); (case side1 => repeat (first | (with_reducible first | exact HI214.out | apply IsS60.alloc | apply IsS60.drewN | apply IsS60.drew | apply IsS60.set_1 | apply IsS60.set_2 | refine IsS60.far ?_ NB214_210.out _) | exact HI214.out)); (case side2 => repeat (first | (with_reducible first | exact HB.out | apply below_alloc | apply pw_below_drewN | apply below_drew1 | refine below_set ?_ (IsS60.ge HI214.out) | refine below_set ?_ GE210.out) | exact HB.out)); rintro e w6 ⟨v219, v222, rfl, ho0, ho1, hi, hb, hk⟩; refine ⟨_, rfl, ?_⟩; have n0_ := Aside0.mk (KeepBut.blk hk (g' := gb210) (o := .cells #[.int .i64 0, .int .i64 0, .int .i64 0, .slice none 0 0, .slice none 0 0] 27 (0, 0)) (by (with_reducible repeat (first | refine blk_drewN ?_ _ | refine blk_drew ?_ | refine blk_alloc ?_ _)); exact BK210.out) NB210_214.out (by simp)); have n1_ := Aside0.mk (Kd.R_lower ho0 (below_size (by repeat (first | (with_reducible first | exact HB.out | apply below_alloc | apply pw_below_drewN | apply below_drew1 | refine below_set ?_ (IsS60.ge HI214.out) | refine below_set ?_ GE210.out) | exact HB.out)))); have n2_ := Aside0.mk (Kd.R_lower ho1 (below_size (by repeat (first | (with_reducible first | exact HB.out | apply below_alloc | apply pw_below_drewN | apply below_drew1 | refine below_set ?_ (IsS60.ge HI214.out) | refine below_set ?_ GE210.out) | exact HB.out)))); have n3_ := Aside0.mk (hb); have n4_ := Aside0.mk (hi); clear BK210; clear HB; clear HI214; have BK210 := n0_; have HO220 := n1_; have HO223 := n2_; have HB := n3_; have HI214 := n4_; clear n0_ n1_ n2_ n3_ n4_; (try clear hb); (try clear hb2); (try clear hk); (try clear hi); (try clear ho0); (try clear ho1); have hnb7 := NB210_214.out; have hnc7 := NB214_210.out; have hcz8_0 : w6.cell? ⟨gb210, 0, none⟩ = some (.int .i64 0) := (blk_cell BK210.out 0).trans rfl; have hcz8_1 : w6.cell? ⟨gb210, 1, none⟩ = some (.int .i64 0) := (blk_cell BK210.out 1).trans rfl; have hcz8_2 : w6.cell? ⟨gb210, 2, none⟩ = some (.int .i64 0) := (blk_cell BK210.out 2).trans rfl; have hcz8_3 : w6.cell? ⟨gb210, 3, none⟩ = some (.slice none 0 0) := (blk_cell BK210.out 3).trans rfl; have hcz8_4 : w6.cell? ⟨gb210, 4, none⟩ = some (.slice none 0 0) := (blk_cell BK210.out 4).trans rfl; have hfz8_0 := blk_frozen BK210.out 0; have hfz8_1 := blk_frozen BK210.out 1; have hfz8_2 := blk_frozen BK210.out 2; have hfz8_3 := blk_frozen BK210.out 3; have hfz8_4 := blk_frozen BK210.out 4; obtain ⟨Ao9, co9, eo9⟩ := Kd.R_slice HO220.out; subst eo9; obtain ⟨Ao10, co10, eo10⟩ := Kd.R_slice HO223.out; subst eo10))
 refine bodyPost_ret (results_cell_row rfl _ _ gb210 27 #[.int .i64 t215, .int .i64 t216, .int .i64 t217, .slice Ao9 t218.length co9, .slice Ao10 t221.length co10] (0, 0) _ rfl (by (with_reducible repeat (first | refine blk_drewN ?_ _ | refine blk_drew ?_ | refine blk_alloc ?_ _)); refine blk_put (cs := #[.int .i64 t215, .int .i64 t216, .int .i64 t217, .slice Ao9 t218.length co9, .slice none 0 0]) ?_ 4 _ rfl; (with_reducible repeat (first | refine blk_drewN ?_ _ | refine blk_drew ?_ | refine blk_alloc ?_ _)); refine blk_put (cs := #[.int .i64 t215, .int .i64 t216, .int .i64 t217, .slice none 0 0, .slice none 0 0]) ?_ 3 _ rfl; (with_reducible repeat (first | refine blk_drewN ?_ _ | refine blk_drew ?_ | refine blk_alloc ?_ _)); refine blk_put (cs := #[.int .i64 t215, .int .i64 t216, .int .i64 0, .slice none 0 0, .slice none 0 0]) ?_ 2 _ rfl; (with_reducible repeat (first | refine blk_drewN ?_ _ | refine blk_drew ?_ | refine blk_alloc ?_ _)); refine blk_put (cs := #[.int .i64 t215, .int .i64 0, .int .i64 0, .slice none 0 0, .slice none 0 0]) ?_ 1 _ rfl; (with_reducible repeat (first | refine blk_drewN ?_ _ | refine blk_drew ?_ | refine blk_alloc ?_ _)); refine blk_put (cs := #[.int .i64 0, .int .i64 0, .int .i64 0, .slice none 0 0, .slice none 0 0]) ?_ 0 _ rfl; (with_reducible repeat (first | refine blk_drewN ?_ _ | refine blk_drew ?_ | refine blk_alloc ?_ _)); exact BK210.out) Try.underlying27 rfl (by kernel_rfl)) rfl ?_
 exact ⟨_, _, by first | rfl | (simp [errW_none, errW_some] <;> rfl) | (simp [*, errW_none, errW_some] <;> rfl), by (with_reducible repeat (first | apply Kd.R_alloc | apply Kd.R_drewN | apply Kd.R_drew)); exact Kd.R_mono (Kd.R_far (p := ⟨gb210, 4, none⟩) (Kd.R_far (p := ⟨gb210, 3, none⟩) (Kd.R_far (p := ⟨gb210, 2, none⟩) (Kd.R_far (p := ⟨gb210, 1, none⟩) (Kd.R_far (p := ⟨gb210, 0, none⟩) (Kd.R_types HO220.out BK210.out (by decide)) (fun _ hk => hk.2) (.int .i64 t215)) (fun _ hk => hk.2) (.int .i64 t216)) (fun _ hk => hk.2) (.int .i64 t217)) (fun _ hk => hk.2) (.slice Ao9 t218.length co9)) (fun _ hk => hk.2) (.slice Ao10 t221.length co10)) (fun _ hk => hk.1), by (with_reducible repeat (first | apply Kd.R_alloc | apply Kd.R_drewN | apply Kd.R_drew)); exact Kd.R_mono (Kd.R_far (p := ⟨gb210, 4, none⟩) (Kd.R_far (p := ⟨gb210, 3, none⟩) (Kd.R_far (p := ⟨gb210, 2, none⟩) (Kd.R_far (p := ⟨gb210, 1, none⟩) (Kd.R_far (p := ⟨gb210, 0, none⟩) (Kd.R_types HO223.out BK210.out (by decide)) (fun _ hk => hk.2) (.int .i64 t215)) (fun _ hk => hk.2) (.int .i64 t216)) (fun _ hk => hk.2) (.int .i64 t217)) (fun _ hk => hk.2) (.slice Ao9 t218.length co9)) (fun _ hk => hk.2) (.slice Ao10 t221.length co10)) (fun _ hk => hk.1), by repeat (first | (with_reducible first | exact HB.out | apply below_alloc | apply pw_below_drewN | apply below_drew1 | refine below_set ?_ (IsS60.ge HI214.out) | refine below_set ?_ GE210.out) | exact HB.out)⟩

/-! ### laws_at: function 28 -/
def laws_at.f (l0 : List Int) (a1 : Int) : Option (Int) := if a1 < (l0.length : Int) then (if 0 ≤ a1 then (some (wrap64 (rd l0 a1))) else (none)) else (some (Int.tmod (wrap64 ((wrap64 (a1 * 11)) + (wrap64 ((l0.length : Int) * 3)))) 256))
set_option maxHeartbeats 8000000 in
set_option maxRecDepth 100000 in
theorem laws_at.calls (A0 : Option Addr) (c0 : Nat) (l0 : List Int) (a1 : Int) (r : Int) (w : World) (hr0 : Kd.C (Kd.int .u8) w A0 l0.length l0) (hc0 : l0.length ≤ c0) (h : laws_at.f l0 a1 = some r) :
  Calls Try.prog 28 #[.slice A0 l0.length c0, .int .i64 a1] w fun e w' => e = .returned (.int .i64 r) ∧ Drawn0 w w' := by
 have HR0 := Aside0.mk hr0
 have HC0 := Aside0.mk hc0
 clear hr0 hc0
 have H : (if a1 < (l0.length : Int) then (if 0 ≤ a1 then (some (wrap64 (rd l0 a1))) else (none)) else (some (Int.tmod (wrap64 ((wrap64 (a1 * 11)) + (wrap64 ((l0.length : Int) * 3)))) 256))) = some r := h
 clear h
 by_cases c3 : a1 < (l0.length : Int)
 ·rw [if_pos c3] at H
  have c3b0 : decide (a1 < (l0.length : Int)) = true := decide_eq_true c3
  clear c3
  by_cases c4 : 0 ≤ a1
  ·rw [if_pos c4] at H
   have c4b0 : decide (0 ≤ a1) = true := decide_eq_true c4
   clear c4
   obtain rfl := Option.some.inj H
   have p226 : 0 ≤ (a1 : Int) := of_decide_eq_true (by first | (with_reducible assumption) | assumption)
   have q226 : a1 < (l0.length : Int) := of_decide_eq_true (by first | (with_reducible assumption) | assumption)
   obtain ⟨ad226, e226, hx226_0⟩ := Kd.at_int HR0.out a1 p226 q226
   cases e226
   replace p226 := eq_true p226
   replace q226 := eq_true q226
   go_enter Try.func28, Try.ntmps28
   go_wp2
   go_ret
   exact ⟨by first | rfl | (simp; done) | (simp [*]; done), by repeat (first | exact Drawn0.refl _ | apply Drawn0.step)⟩
  ·rw [if_neg c4] at H
   exact absurd H (by simp)
 ·rw [if_neg c3] at H
  have c3b0 : decide (a1 < (l0.length : Int)) = false := decide_eq_false c3
  clear c3
  obtain rfl := Option.some.inj H
  go_enter Try.func28, Try.ntmps28
  go_wp2
  go_ret
  exact ⟨by first | rfl | (simp; done) | (simp [*]; done), by repeat (first | exact Drawn0.refl _ | apply Drawn0.step)⟩

/-! ### laws_sameInts: function 50 -/
def laws_sameInts.l0 : Nat → List Int → List Int → Int → Option (Bool)
 | 0, _, _, _ => none
 | k + 1, x0, x1, x5 => if x5 < (x0.length : Int) then (if 0 ≤ x5 then (if x5 < (x1.length : Int) then (if (rd x0 x5) = (rd x1 x5) then (laws_sameInts.l0 k x0 x1 (wrap64 (x5 + 1))) else (some false)) else (none)) else (none)) else (some true)
def laws_sameInts.f (k : Nat) (l0 : List Int) (l1 : List Int) : Option (Bool) := if (l0.length : Int) = (l1.length : Int) then (laws_sameInts.l0 k l0 l1 0) else (some false)
theorem laws_sameInts.mono_l : ∀ k, (∀ y0 y1 y2, LeO (laws_sameInts.l0 k y0 y1 y2) (laws_sameInts.l0 (k + 1) y0 y1 y2))
 | 0 => fun _ _ _ r h => by simp [laws_sameInts.l0] at h
 | k + 1 => by
  have ih0 := laws_sameInts.mono_l k
  ·intro y0 y1 y2
   unfold laws_sameInts.l0
   repeat' first
   | (with_reducible exact ih0 _ _ _)
   | (with_reducible exact LeO.refl _)
   | (with_reducible exact LeO.none _)
   | (with_reducible refine LeO.ite ?_ ?_)
   | (with_reducible refine LeO.bind ?_ (fun _ => ?_))
   | exact ih0 _ _ _
   | exact LeO.none _
   | refine LeO.ite ?_ ?_
   | refine LeO.bind ?_ (fun _ => ?_)
theorem laws_sameInts.mono : ∀ a0 a1 k, LeO (laws_sameInts.f k a0 a1) (laws_sameInts.f (k + 1) a0 a1) := by
 intro a0 a1 k
 have ih0 := laws_sameInts.mono_l k
 unfold laws_sameInts.f
 repeat' first
   | (with_reducible exact ih0 _ _ _)
   | (with_reducible exact LeO.refl _)
   | (with_reducible exact LeO.none _)
   | (with_reducible refine LeO.ite ?_ ?_)
   | (with_reducible refine LeO.bind ?_ (fun _ => ?_))
   | exact ih0 _ _ _
   | exact LeO.none _
   | refine LeO.ite ?_ ?_
   | refine LeO.bind ?_ (fun _ => ?_)
set_option maxHeartbeats 8000000 in
set_option maxRecDepth 100000 in
theorem laws_sameInts.calls (k : Nat) (A0 : Option Addr) (c0 : Nat) (l0 : List Int) (A1 : Option Addr) (c1 : Nat) (l1 : List Int) (r : Bool) (w : World) (hr0 : Kd.C (Kd.int .i64) w A0 l0.length l0) (hc0 : l0.length ≤ c0) (hr1 : Kd.C (Kd.int .i64) w A1 l1.length l1) (hc1 : l1.length ≤ c1) (h : laws_sameInts.f k l0 l1 = some r) :
  Calls Try.prog 50 #[.slice A0 l0.length c0, .slice A1 l1.length c1] w fun e w' => e = .returned (.bool r) ∧ Drawn0 w w' := by
 have HR0 := Aside0.mk hr0
 have HC0 := Aside0.mk hc0
 clear hr0 hc0
 have HR1 := Aside0.mk hr1
 have HC1 := Aside0.mk hc1
 clear hr1 hc1
 have H : (if (l0.length : Int) = (l1.length : Int) then (laws_sameInts.l0 k l0 l1 0) else (some false)) = some r := h
 clear h
 by_cases c3 : (l0.length : Int) = (l1.length : Int)
 ·rw [if_pos c3] at H
  have c3b0 : ((l0.length : Int) == (l1.length : Int)) = true := beq_iff_eq.mpr c3
  have c3b1 : ((l0.length : Int) != (l1.length : Int)) = false := bne_eq_false_iff_eq.mpr c3
  have c3b2 : (l0.length == l1.length) = true := by first | simpa using c3 | (simp at c3 ⊢; omega)
  clear c3
  have H' := Aside0.mk H
  clear H
  go_enter Try.func50, Try.ntmps50
  go_wp2
  repeat (go_quiet (fail); try go_wp2)
  go_loopg [5] k (fun kq v5 w' => ∃ (x5_1 : Int), v5 = .int .i64 x5_1 ∧ Aside0 (laws_sameInts.l0 kq l0 l1 x5_1 = some r) ∧ Aside0 (kq ≤ k) ∧ Drawn0 w w')
  case atStart => exact ⟨(0), (by first | rfl | (simp; done) | (simp [*]; done)), H', ⟨Nat.le_refl _⟩, by repeat (first | exact Drawn0.refl _ | apply Drawn0.step)⟩
  case round =>
   clear H'
   try clear c1
   try clear p2
   try clear c3
   try clear c3b0
   try clear c3b1
   try clear c3b2
   obtain ⟨x5_1, rfl, HA, HK1, ⟨m1, rfl⟩⟩ := hrel
   cases gk with
   | zero => exact absurd HA.out (by simp [laws_sameInts.l0])
   | succ k1 =>
    have H := HA.out
    clear HA
    simp only [laws_sameInts.l0] at H
    by_cases c4 : x5_1 < (l0.length : Int)
    ·rw [if_pos c4] at H
     have c4b0 : decide (x5_1 < (l0.length : Int)) = true := decide_eq_true c4
     clear c4
     by_cases c5 : 0 ≤ x5_1
     ·rw [if_pos c5] at H
      have c5b0 : decide (0 ≤ x5_1) = true := decide_eq_true c5
      clear c5
      by_cases c6 : x5_1 < (l1.length : Int)
      ·rw [if_pos c6] at H
       have c6b0 : decide (x5_1 < (l1.length : Int)) = true := decide_eq_true c6
       clear c6
       by_cases c7 : (rd l0 x5_1) = (rd l1 x5_1)
       ·rw [if_pos c7] at H
        have c7b0 : ((rd l0 x5_1) == (rd l1 x5_1)) = true := beq_iff_eq.mpr c7
        have c7b1 : ((rd l0 x5_1) != (rd l1 x5_1)) = false := bne_eq_false_iff_eq.mpr c7
        clear c7
        have H' := Aside0.mk H
        clear H
        have p227 : 0 ≤ (x5_1 : Int) := of_decide_eq_true (by first | (with_reducible assumption) | assumption)
        have q227 : x5_1 < (l0.length : Int) := of_decide_eq_true (by first | (with_reducible assumption) | assumption)
        obtain ⟨ad227, e227, hx227_0⟩ := Kd.at_int HR0.out x5_1 p227 q227
        cases e227
        replace p227 := eq_true p227
        replace q227 := eq_true q227
        have p228 : 0 ≤ (x5_1 : Int) := of_decide_eq_true (by first | (with_reducible assumption) | assumption)
        have q228 : x5_1 < (l1.length : Int) := of_decide_eq_true (by first | (with_reducible assumption) | assumption)
        obtain ⟨ad228, e228, hx228_0⟩ := Kd.at_int HR1.out x5_1 p228 q228
        cases e228
        replace p228 := eq_true p228
        replace q228 := eq_true q228
        go_wp2
        repeat (go_quiet (fail); try go_wp2)
        go_roundg k1
        case measure => have := HK1.out; omega
        case rel => exact ⟨(wrap64 (x5_1 + 1)), (by first | rfl | (simp; done) | (simp [*]; done)), H', ⟨by have := HK1.out; omega⟩, by repeat (first | exact Drawn0.refl _ | apply Drawn0.step)⟩
       ·rw [if_neg c7] at H
        have c7b0 : ((rd l0 x5_1) == (rd l1 x5_1)) = false := beq_eq_false_iff_ne.mpr c7
        have c7b1 : ((rd l0 x5_1) != (rd l1 x5_1)) = true := bne_iff_ne.mpr c7
        obtain rfl := Option.some.inj H
        have p227 : 0 ≤ (x5_1 : Int) := of_decide_eq_true (by first | (with_reducible assumption) | assumption)
        have q227 : x5_1 < (l0.length : Int) := of_decide_eq_true (by first | (with_reducible assumption) | assumption)
        obtain ⟨ad227, e227, hx227_0⟩ := Kd.at_int HR0.out x5_1 p227 q227
        cases e227
        replace p227 := eq_true p227
        replace q227 := eq_true q227
        have p228 : 0 ≤ (x5_1 : Int) := of_decide_eq_true (by first | (with_reducible assumption) | assumption)
        have q228 : x5_1 < (l1.length : Int) := of_decide_eq_true (by first | (with_reducible assumption) | assumption)
        obtain ⟨ad228, e228, hx228_0⟩ := Kd.at_int HR1.out x5_1 p228 q228
        cases e228
        replace p228 := eq_true p228
        replace q228 := eq_true q228
        go_wp2
        repeat (go_quiet (fail); try go_wp2)
        go_ret
        exact ⟨by first | rfl | (simp; done) | (simp [*]; done), by repeat (first | exact Drawn0.refl _ | apply Drawn0.step)⟩
      ·rw [if_neg c6] at H
       exact absurd H (by simp)
     ·rw [if_neg c5] at H
      exact absurd H (by simp)
    ·rw [if_neg c4] at H
     have c4b0 : decide (x5_1 < (l0.length : Int)) = false := decide_eq_false c4
     clear c4
     obtain rfl := Option.some.inj H
     go_wp2
     repeat (go_quiet (fail); try go_wp2)
     go_ret
     exact ⟨by first | rfl | (simp; done) | (simp [*]; done), by repeat (first | exact Drawn0.refl _ | apply Drawn0.step)⟩
 ·rw [if_neg c3] at H
  have c3b0 : ((l0.length : Int) == (l1.length : Int)) = false := beq_eq_false_iff_ne.mpr c3
  have c3b1 : ((l0.length : Int) != (l1.length : Int)) = true := bne_iff_ne.mpr c3
  have c3b2 : (l0.length == l1.length) = false := by first | simpa using c3 | (simp at c3 ⊢; omega)
  obtain rfl := Option.some.inj H
  go_enter Try.func50, Try.ntmps50
  go_wp2
  repeat (go_quiet (fail); try go_wp2)
  go_ret
  exact ⟨by first | rfl | (simp; done) | (simp [*]; done), by repeat (first | exact Drawn0.refl _ | apply Drawn0.step)⟩

end Go.Proofs.Ytgjhlkjfdlkndaa.PFnLater
