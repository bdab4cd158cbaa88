-- Written by a program of this session (wip/tools/fltprint.py: the kit's printer, taught more).
import Derived.Test.YtgjhlkjfdlkndaaPFnBothx0
import Derived.Test.YtgjhlkjfdlkndaaPFnBothx2
import Derived.Test.YtgjhlkjfdlkndaaPFnBothx7
namespace Go.Proofs.Ytgjhlkjfdlkndaa.PFnBoth
open Go.RowKit Go.Proofs.YtgjhlkjfdlkndaaW.PrintWords Go.Proofs.YtgjhlkjfdlkndaaW.PrintLast Go.Proofs.YtgjhlkjfdlkndaaW.PrintMore
attribute [local go_sem] max2_int min2_int max_two min_two max_three min_three max_four min_four   -- for this text's walks alone
set_option linter.unusedVariables false
set_option linter.unusedSimpArgs false
abbrev Nbx8_ {α : Type} (k : Nat) (A : Option Addr) (l : List α) (c : Nat) : Prop := some k ≠ (Value.slice A l.length c).ownBlock
abbrev Nvx8_ (k : Nat) (v : Value) : Prop := some k ≠ v.ownBlock

/-! ### spec_l01DrawRight: function 49 -/
mutual
def spec_l01DrawRight.l0 : Nat → Int → List Int → Int → Int → Int → Int → Int → List Int → List Int → Option (Int × Int × Int × List Int × List Int × Int × Int)
 | 0, _, _, _, _, _, _, _, _, _ => none
 | k + 1, x5, x1000, x1001, x1002, x216000, x216001, x216002, x216003, x216004 => if x5 ≤ x216002 then ((spec_l01Once.f x1000 x1001 x1002 9).bind fun bt216 => (if bt216.1 = true then ((spec_l01Week.f x216000 x5).bind fun t219 => (if t219 = true then (spec_l01DrawRight.j1 k x5 (decide ((x216003.length : Int) < 20)) x1000 bt216.2.1 bt216.2.2 x216000 x216001 x216002 x216003 x216004) else (spec_l01DrawRight.j1 k x5 false x1000 bt216.2.1 bt216.2.2 x216000 x216001 x216002 x216003 x216004))) else (spec_l01DrawRight.l0 k (wrap64 (x5 + 1)) x1000 bt216.2.1 bt216.2.2 x216000 x216001 x216002 x216003 x216004))) else (some (x216000, x216001, x216002, x216003, x216004, x1001, x1002))
def spec_l01DrawRight.j1 : Nat → Int → Bool → List Int → Int → Int → Int → Int → Int → List Int → List Int → Option (Int × Int × Int × List Int × List Int × Int × Int)
 | 0, _, _, _, _, _, _, _, _, _, _ => none
 | k + 1, x5, x35, x1000, x1001, x1002, x216000, x216001, x216002, x216003, x216004 => if x35 = true then (if x216003.length < 17592186044416 then ((some (x216003 ++ [x5] : List Int)).bind fun y220 => ((spec_l01Week.f x216000 x5).bind fun t223 => (if t223 = true then (spec_l01DrawRight.l0 k (wrap64 (x5 + 1)) x1000 x1001 x1002 x216000 x216001 x216002 y220 x216004) else (if (x216004.length : Int) < 20 then (if x216004.length < 17592186044416 then (spec_l01DrawRight.l0 k (wrap64 (x5 + 1)) x1000 x1001 x1002 x216000 x216001 x216002 y220 (x216004 ++ [x5])) else (none)) else (spec_l01DrawRight.l0 k (wrap64 (x5 + 1)) x1000 x1001 x1002 x216000 x216001 x216002 y220 x216004))))) else (none)) else ((spec_l01Week.f x216000 x5).bind fun t227 => (if t227 = true then (spec_l01DrawRight.l0 k (wrap64 (x5 + 1)) x1000 x1001 x1002 x216000 x216001 x216002 x216003 x216004) else (if (x216004.length : Int) < 20 then (if x216004.length < 17592186044416 then (spec_l01DrawRight.l0 k (wrap64 (x5 + 1)) x1000 x1001 x1002 x216000 x216001 x216002 x216003 (x216004 ++ [x5])) else (none)) else (spec_l01DrawRight.l0 k (wrap64 (x5 + 1)) x1000 x1001 x1002 x216000 x216001 x216002 x216003 x216004))))
end
def spec_l01DrawRight.f (k : Nat) (s0_0 : List Int) (s0_1 : Int) (s0_2 : Int) : Option (Int × Int × Int × List Int × List Int × Int × Int) := (spec_l01Below.f s0_0 s0_1 s0_2 60).bind fun bt206 => ((spec_l01Below.f s0_0 bt206.2.1 bt206.2.2 128).bind fun bt209 => ((spec_l01Below.f s0_0 bt209.2.1 bt209.2.2 80).bind fun bt212 => (spec_l01DrawRight.l0 k bt206.1 s0_0 bt212.2.1 bt212.2.2 bt209.1 bt206.1 (wrap64 (bt206.1 + bt212.1)) ([] : List Int) ([] : List Int))))
theorem spec_l01DrawRight.mono_l : ∀ k, (∀ y0 y1 y2 y3 y4 y5 y6 y7 y8, LeO (spec_l01DrawRight.l0 k y0 y1 y2 y3 y4 y5 y6 y7 y8) (spec_l01DrawRight.l0 (k + 1) y0 y1 y2 y3 y4 y5 y6 y7 y8)) ∧ (∀ y0 y1 y2 y3 y4 y5 y6 y7 y8 y9, LeO (spec_l01DrawRight.j1 k y0 y1 y2 y3 y4 y5 y6 y7 y8 y9) (spec_l01DrawRight.j1 (k + 1) y0 y1 y2 y3 y4 y5 y6 y7 y8 y9))
 | 0 => ⟨fun _ _ _ _ _ _ _ _ _ r h => by simp [spec_l01DrawRight.l0] at h, fun _ _ _ _ _ _ _ _ _ _ r h => by simp [spec_l01DrawRight.j1] at h⟩
 | k + 1 => by
  obtain ⟨ih0, ih1⟩ := spec_l01DrawRight.mono_l k
  refine ⟨?_, ?_⟩
  ·intro y0 y1 y2 y3 y4 y5 y6 y7 y8
   unfold spec_l01DrawRight.l0
   repeat' first
   | (with_reducible exact ih0 _ _ _ _ _ _ _ _ _)
   | (with_reducible exact ih1 _ _ _ _ _ _ _ _ _ _)
   | (with_reducible exact LeO.refl _)
   | (with_reducible exact LeO.none _)
   | (with_reducible refine LeO.ite ?_ ?_)
   | (with_reducible refine LeO.bind ?_ (fun _ => ?_))
   | exact ih0 _ _ _ _ _ _ _ _ _
   | exact ih1 _ _ _ _ _ _ _ _ _ _
   | exact LeO.none _
   | refine LeO.ite ?_ ?_
   | refine LeO.bind ?_ (fun _ => ?_)
  ·intro y0 y1 y2 y3 y4 y5 y6 y7 y8 y9
   unfold spec_l01DrawRight.j1
   repeat' first
   | (with_reducible exact ih0 _ _ _ _ _ _ _ _ _)
   | (with_reducible exact ih1 _ _ _ _ _ _ _ _ _ _)
   | (with_reducible exact LeO.refl _)
   | (with_reducible exact LeO.none _)
   | (with_reducible refine LeO.ite ?_ ?_)
   | (with_reducible refine LeO.bind ?_ (fun _ => ?_))
   | exact ih0 _ _ _ _ _ _ _ _ _
   | exact ih1 _ _ _ _ _ _ _ _ _ _
   | exact LeO.none _
   | refine LeO.ite ?_ ?_
   | refine LeO.bind ?_ (fun _ => ?_)
theorem spec_l01DrawRight.mono : ∀ a0 a1 a2 k, LeO (spec_l01DrawRight.f k a0 a1 a2) (spec_l01DrawRight.f (k + 1) a0 a1 a2) := by
 intro a0 a1 a2 k
 obtain ⟨ih0, ih1⟩ := spec_l01DrawRight.mono_l k
 unfold spec_l01DrawRight.f
 repeat' first
   | (with_reducible exact ih0 _ _ _ _ _ _ _ _ _)
   | (with_reducible exact ih1 _ _ _ _ _ _ _ _ _ _)
   | (with_reducible exact LeO.refl _)
   | (with_reducible exact LeO.none _)
   | (with_reducible refine LeO.ite ?_ ?_)
   | (with_reducible refine LeO.bind ?_ (fun _ => ?_))
   | exact ih0 _ _ _ _ _ _ _ _ _
   | exact ih1 _ _ _ _ _ _ _ _ _ _
   | exact LeO.none _
   | refine LeO.ite ?_ ?_
   | refine LeO.bind ?_ (fun _ => ?_)
set_option maxHeartbeats 8000000 in
set_option maxRecDepth 100000 in
theorem spec_l01DrawRight.calls (k : Nat) (g : Nat) (s0_0 : List Int) (s0_1 : Int) (s0_2 : Int) (r1 : Int) (r2 : Int) (r3 : Int) (r4 : List Int) (r5 : List Int) (r6 : Int) (r7 : Int) (w0 w : World) (hI : IsS60 w0 w g s0_0 s0_1 s0_2) (hB : Below w0.heap.size w0 w) (h : spec_l01DrawRight.f k s0_0 s0_1 s0_2 = some (r1, r2, r3, r4, r5, r6, r7)) :
  Calls Try.prog 49 #[.pointer (some ⟨g, 0, none⟩)] w fun e w' => ∃ v3_ v4_ : Value, e = .returned (.agg #[.int .i64 r1, .int .i64 r2, .int .i64 r3, v3_, v4_]) ∧ Kd.R (Kd.int .i64) 3 w' w.heap.size (fun k_ => Nvx8_ k_ v4_) v3_ r4 ∧ Kd.R (Kd.int .i64) 3 w' w.heap.size (fun k_ => Nvx8_ k_ v3_) v4_ r5 ∧ IsS60 w0 w' g s0_0 r6 r7 ∧ Below w0.heap.size w0 w' ∧ KeepBut w w' g none := by
 have hu27 := Try.underlying27
 have HI0 := Aside0.mk hI
 have HK := Aside0.mk (KeepBut.refl w g none)
 have HL := Aside0.mk hB.size
 clear hI
 have HW0 := Aside0.mk hB.size
 have HB := Aside0.mk hB
 clear hB
 have H := h
 clear h
 unfold spec_l01DrawRight.f at H
 replace H := Option.bind_eq_some_iff.mp H
 obtain ⟨⟨t206, t207, t208⟩, A20, H⟩ := H
 try dsimp only at H
 have A2 := Aside0.mk A20
 clear A20
 replace H := Option.bind_eq_some_iff.mp H
 obtain ⟨⟨t209, t210, t211⟩, A30, H⟩ := H
 try dsimp only at H
 have A3 := Aside0.mk A30
 clear A30
 replace H := Option.bind_eq_some_iff.mp H
 obtain ⟨⟨t212, t213, t214⟩, A40, H⟩ := H
 replace H : (spec_l01DrawRight.l0 k t206 s0_0 t213 t214 t209 t206 (wrap64 (t206 + t212)) ([] : List Int) ([] : List Int)) = some (r1, r2, r3, r4, r5, r6, r7) := H
 have A4 := Aside0.mk A40
 clear A40
 have H' := Aside0.mk H
 clear H
 go_enter Try.func49, Try.ntmps49
 go_wp2_with (first | ((with_reducible refine gate_dst (N := 2) rfl ?_); (try (refine gate_guard (by rfl) ?_; dsimp only)); refine box_event ?hg (N := 2) ?hd (cs := #[.int .i64 0, .int .i64 0, .int .i64 0, .slice none 0 0, .slice none 0 0]) (t := 27) ?hr ?_; (case hd => rfl); (case hg => rfl); (case hr => first | (go_simp; done) | (go_simp; rfl)); intro gb205 hg w5 hbox hb; have cs1_ := IsS60.lt (show IsS60 w0 _ g s0_0 s0_1 s0_2 from by repeat (first | (with_reducible first | exact HI0.out | apply IsS60.alloc | apply IsS60.drewN | apply IsS60.drew | apply IsS60.set_1 | apply IsS60.set_2) | exact HI0.out)); replace HI0 := Aside0.mk (IsS60.below HI0.out hb); replace HB := Aside0.mk (below_step HB.out hb); have BK205 := Aside0.mk (hbox); have GW205 := Aside0.mk ((by rw [hg]; exact (keep_size (w := w) (g := g) (row := none) HK.out) : w.heap.size ≤ gb205)); have GE205 := Aside0.mk ((Nat.le_trans HW0.out (by rw [hg]; exact (keep_size (w := w) (g := g) (row := none) HK.out) : w.heap.size ≤ gb205) : w0.heap.size ≤ gb205)); replace HK := Aside0.mk (KeepBut.trans HK.out (KeepBut.of_below hb g none) (.inl rfl)); have NB0_205 := Aside0.mk ((by rw [hg]; exact Nat.ne_of_lt cs1_ : g ≠ gb205)); have NB205_0 := Aside0.mk ((by rw [hg]; exact Nat.ne_of_gt cs1_ : gb205 ≠ g)); clear cs1_; clear hb hbox hg) | ((with_reducible refine gate_callee (f := 55) rfl ?_); refine goesL_ (some 7) rfl rfl Try.func55 (by kernel_rfl) rfl #[.pointer (some ⟨g, 0, none⟩), .int .i64 60] rfl (by (try simp only [List.map_toArray, List.map_cons, List.map_nil]); first | done | rfl | (simp only [List.length_drop, List.length_take]; rfl)) ?_; (with_reducible refine (spec_l01Below.calls g s0_0 s0_1 s0_2 60 t206 t207 t208 w0 _ ?side1 ?side2 A2.out).mono ?_); (case side1 => exact HI0.out); (case side2 => exact HB.out); rintro e w6 ⟨rfl, hi, hb, hk⟩; refine ⟨_, rfl, ?_⟩; replace BK205 := Aside0.mk (KeepBut.blk hk (g' := gb205) (o := .cells #[.int .i64 0, .int .i64 0, .int .i64 0, .slice none 0 0, .slice none 0 0] 27 (0, 0)) BK205.out NB205_0.out (by simp)); replace HK := Aside0.mk (KeepBut.trans HK.out hk (.inl rfl)); replace HB := Aside0.mk (hb); replace HI0 := Aside0.mk (hi); (try clear hb); (try clear hb2); (try clear hk); (try clear hi)) | ((with_reducible refine gate_callee (f := 55) rfl ?_); refine goesL_ (some 9) rfl rfl Try.func55 (by kernel_rfl) rfl #[.pointer (some ⟨g, 0, none⟩), .int .i64 128] rfl (by (try simp only [List.map_toArray, List.map_cons, List.map_nil]); first | done | rfl | (simp only [List.length_drop, List.length_take]; rfl)) ?_; (with_reducible refine (spec_l01Below.calls g s0_0 t207 t208 128 t209 t210 t211 w0 _ ?side1 ?side2 A3.out).mono ?_); (case side1 => exact HI0.out); (case side2 => exact HB.out); rintro e w7 ⟨rfl, hi, hb, hk⟩; refine ⟨_, rfl, ?_⟩; replace BK205 := Aside0.mk (KeepBut.blk hk (g' := gb205) (o := .cells #[.int .i64 0, .int .i64 0, .int .i64 0, .slice none 0 0, .slice none 0 0] 27 (0, 0)) BK205.out NB205_0.out (by simp)); replace HK := Aside0.mk (KeepBut.trans HK.out hk (.inl rfl)); replace HB := Aside0.mk (hb); replace HI0 := Aside0.mk (hi); (try clear hb); (try clear hb2); (try clear hk); (try clear hi)) | ((with_reducible refine gate_callee (f := 55) rfl ?_); refine goesL_ (some 13) rfl rfl Try.func55 (by kernel_rfl) rfl #[.pointer (some ⟨g, 0, none⟩), .int .i64 80] rfl (by (try simp only [List.map_toArray, List.map_cons, List.map_nil]); first | done | rfl | (simp only [List.length_drop, List.length_take]; rfl)) ?_; (with_reducible refine (spec_l01Below.calls g s0_0 t210 t211 80 t212 t213 t214 w0 _ ?side1 ?side2 A4.out).mono ?_); (case side1 => exact HI0.out); (case side2 => exact HB.out); rintro e w8 ⟨rfl, hi, hb, hk⟩; refine ⟨_, rfl, ?_⟩; replace BK205 := Aside0.mk (KeepBut.blk hk (g' := gb205) (o := .cells #[.int .i64 0, .int .i64 0, .int .i64 0, .slice none 0 0, .slice none 0 0] 27 (0, 0)) BK205.out NB205_0.out (by simp)); replace HK := Aside0.mk (KeepBut.trans HK.out hk (.inl rfl)); replace HB := Aside0.mk (hb); replace HI0 := Aside0.mk (hi); (try clear hb); (try clear hb2); (try clear hk); (try clear hi)) | ((with_reducible refine gate_dst (N := 4) rfl ?_); (try (refine gate_guard (by rfl) ?_; dsimp only)); refine box_event ?hg (N := 4) ?hd (cs := #[.int .i64 0, .int .i64 0, .int .i64 0, .slice none 0 0, .slice none 0 0]) (t := 27) ?hr ?_; (case hd => rfl); (case hg => rfl); (case hr => first | (go_simp; done) | (go_simp; rfl)); intro gb215 hg w9 hbox hb; replace HB := Aside0.mk (below_step HB.out hb); have BK215 := Aside0.mk (hbox); have GW215 := Aside0.mk ((by rw [hg]; exact (keep_size (w := w) (g := g) (row := none) HK.out) : w.heap.size ≤ gb215)); have GE215 := Aside0.mk ((Nat.le_trans HW0.out (by rw [hg]; exact (keep_size (w := w) (g := g) (row := none) HK.out) : w.heap.size ≤ gb215) : w0.heap.size ≤ gb215)); replace HK := Aside0.mk (KeepBut.trans HK.out (KeepBut.of_below hb g none) (.inl rfl)); have NB205_215 := Aside0.mk ((by rw [hg]; exact Nat.ne_of_lt (blk_lt BK205.out) : gb205 ≠ gb215)); have NB215_205 := Aside0.mk ((by rw [hg]; exact Nat.ne_of_gt (blk_lt BK205.out) : gb215 ≠ gb205)); replace BK205 := Aside0.mk (blk_below BK205.out hb); have NB0_215 := Aside0.mk ((by rw [hg]; exact Nat.ne_of_lt (IsS60.lt (show IsS60 w0 _ g s0_0 t213 t214 from by repeat (first | (with_reducible first | exact HI0.out | apply IsS60.alloc | apply IsS60.drewN | apply IsS60.drew | apply IsS60.set_1 | apply IsS60.set_2 | refine IsS60.far ?_ NB0_205.out _) | exact HI0.out))) : g ≠ gb215)); have NB215_0 := Aside0.mk ((by rw [hg]; exact Nat.ne_of_gt (IsS60.lt (show IsS60 w0 _ g s0_0 t213 t214 from by repeat (first | (with_reducible first | exact HI0.out | apply IsS60.alloc | apply IsS60.drewN | apply IsS60.drew | apply IsS60.set_1 | apply IsS60.set_2 | refine IsS60.far ?_ NB0_205.out _) | exact HI0.out))) : gb215 ≠ g)); replace HI0 := Aside0.mk (IsS60.below HI0.out hb); clear hb hbox hg; have hnb10 := NB215_205.out; have hnc10 := NB205_215.out; have hnb11 := NB215_0.out; have hnc11 := NB0_215.out; have hcz12_0 : w9.cell? ⟨gb215, 0, none⟩ = some (.int .i64 0) := (blk_cell BK215.out 0).trans rfl; have hcz12_1 : w9.cell? ⟨gb215, 1, none⟩ = some (.int .i64 0) := (blk_cell BK215.out 1).trans rfl; have hcz12_2 : w9.cell? ⟨gb215, 2, none⟩ = some (.int .i64 0) := (blk_cell BK215.out 2).trans rfl; have hcz12_3 : w9.cell? ⟨gb215, 3, none⟩ = some (.slice none 0 0) := (blk_cell BK215.out 3).trans rfl; have hcz12_4 : w9.cell? ⟨gb215, 4, none⟩ = some (.slice none 0 0) := (blk_cell BK215.out 4).trans rfl; have hfz12_0 := blk_frozen BK215.out 0; have hfz12_1 := blk_frozen BK215.out 1; have hfz12_2 := blk_frozen BK215.out 2; have hfz12_3 := blk_frozen BK215.out 3; have hfz12_4 := blk_frozen BK215.out 4))
 go_loopg [5] k (fun kq v5 w' => ∃ (x5_1 : Int) (x1001_1 : Int) (x1002_1 : Int) (x216003_1 : List Int) (x216004_1 : List Int) (u216003 : Value) (u216004 : Value), v5 = .int .i64 x5_1 ∧ Aside0 (spec_l01DrawRight.l0 kq x5_1 s0_0 x1001_1 x1002_1 t209 t206 (wrap64 (t206 + t212)) x216003_1 x216004_1 = some (r1, r2, r3, r4, r5, r6, r7)) ∧ Aside0 (kq ≤ k) ∧ Aside0 (Kd.R (Kd.int .i64) 3 w' w.heap.size (fun k_ => some k_ ≠ (u216004 : Value).ownBlock) u216003 x216003_1) ∧ Aside0 (Kd.R (Kd.int .i64) 3 w' w.heap.size (fun k_ => some k_ ≠ (u216003 : Value).ownBlock) u216004 x216004_1) ∧ Aside0 (w'.heap[gb205]? = some (.cells #[.int .i64 0, .int .i64 0, .int .i64 0, (.slice none 0 0), (.slice none 0 0)] 27 (0, 0))) ∧ Aside0 (w'.heap[gb215]? = some (.cells #[.int .i64 t209, .int .i64 t206, .int .i64 (wrap64 (t206 + t212)), u216003, u216004] 27 (0, 0))) ∧ Aside0 (IsS60 w0 w' g s0_0 x1001_1 x1002_1) ∧ Aside0 (KeepBut w w' g none) ∧ Aside0 (Below w0.heap.size w0 w'))
 case atStart => exact ⟨(t206), (t213), (t214), (([] : List Int)), (([] : List Int)), (.slice none 0 0), (.slice none 0 0), (by first | rfl | (simp; done) | (simp [*]; done)), H', ⟨Nat.le_refl _⟩, ⟨by first | exact Kd.R_nil _ _ _ _ _ | exact Kd.N_nil _ _ _ _ _ | exact Kd.V_nil _ _ _ _ _ | exact Kd.Q_nil _ _ _ _ _ | exact Kd.S_nil _ _ _ _ _⟩, ⟨by first | exact Kd.R_nil _ _ _ _ _ | exact Kd.N_nil _ _ _ _ _ | exact Kd.V_nil _ _ _ _ _ | exact Kd.Q_nil _ _ _ _ _ | exact Kd.S_nil _ _ _ _ _⟩, ⟨by (with_reducible repeat (first | refine blk_drewN ?_ _ | refine blk_drew ?_ | refine blk_alloc ?_ _)); refine blk_far ?_ NB205_215.out _; (with_reducible repeat (first | refine blk_drewN ?_ _ | refine blk_drew ?_ | refine blk_alloc ?_ _)); refine blk_far ?_ NB205_215.out _; (with_reducible repeat (first | refine blk_drewN ?_ _ | refine blk_drew ?_ | refine blk_alloc ?_ _)); refine blk_far ?_ NB205_215.out _; (with_reducible repeat (first | refine blk_drewN ?_ _ | refine blk_drew ?_ | refine blk_alloc ?_ _)); refine blk_far ?_ NB205_215.out _; (with_reducible repeat (first | refine blk_drewN ?_ _ | refine blk_drew ?_ | refine blk_alloc ?_ _)); refine blk_far ?_ NB205_215.out _; (with_reducible repeat (first | refine blk_drewN ?_ _ | refine blk_drew ?_ | refine blk_alloc ?_ _)); exact BK205.out⟩, ⟨by (with_reducible repeat (first | refine blk_drewN ?_ _ | refine blk_drew ?_ | refine blk_alloc ?_ _)); refine blk_put (cs := #[.int .i64 t209, .int .i64 t206, .int .i64 (wrap64 (t206 + t212)), .slice none 0 0, .slice none 0 0]) ?_ 4 _ rfl; (with_reducible repeat (first | refine blk_drewN ?_ _ | refine blk_drew ?_ | refine blk_alloc ?_ _)); refine blk_put (cs := #[.int .i64 t209, .int .i64 t206, .int .i64 (wrap64 (t206 + t212)), .slice none 0 0, .slice none 0 0]) ?_ 3 _ rfl; (with_reducible repeat (first | refine blk_drewN ?_ _ | refine blk_drew ?_ | refine blk_alloc ?_ _)); refine blk_put (cs := #[.int .i64 t209, .int .i64 t206, .int .i64 0, .slice none 0 0, .slice none 0 0]) ?_ 2 _ rfl; (with_reducible repeat (first | refine blk_drewN ?_ _ | refine blk_drew ?_ | refine blk_alloc ?_ _)); refine blk_put (cs := #[.int .i64 t209, .int .i64 0, .int .i64 0, .slice none 0 0, .slice none 0 0]) ?_ 1 _ rfl; (with_reducible repeat (first | refine blk_drewN ?_ _ | refine blk_drew ?_ | refine blk_alloc ?_ _)); refine blk_put (cs := #[.int .i64 0, .int .i64 0, .int .i64 0, .slice none 0 0, .slice none 0 0]) ?_ 0 _ rfl; (with_reducible repeat (first | refine blk_drewN ?_ _ | refine blk_drew ?_ | refine blk_alloc ?_ _)); exact BK215.out⟩, ⟨by repeat (first | (with_reducible first | exact HI0.out | apply IsS60.alloc | apply IsS60.drewN | apply IsS60.drew | apply IsS60.set_1 | apply IsS60.set_2 | refine IsS60.far ?_ NB0_205.out _ | refine IsS60.far ?_ NB0_215.out _) | exact HI0.out)⟩, ⟨by repeat (first | (with_reducible first | exact HK.out | apply KeepBut.set_ | apply keep_drewN | apply keep_drew | apply keep_alloc | refine keep_far ?_ GW205.out _ | refine keep_far ?_ GW215.out _) | exact HK.out)⟩, ⟨by repeat (first | (with_reducible first | exact HB.out | apply below_alloc | apply pw_below_drewN | apply below_drew1 | refine below_set ?_ (IsS60.ge HI0.out) | refine below_set ?_ GE205.out | refine below_set ?_ GE215.out) | exact HB.out)⟩⟩
 case round =>
  clear H'
  try clear c1
  try clear p2
  try clear c4
  try clear c5
  try clear p6
  try clear c10
  try clear c11
  try clear hcz12_0
  try clear hcz12_1
  try clear hcz12_2
  try clear hcz12_3
  try clear hcz12_4
  try clear hfz12_0
  try clear hfz12_1
  try clear hfz12_2
  try clear hfz12_3
  try clear hfz12_4
  obtain ⟨x5_1, x1001_1, x1002_1, x216003_1, x216004_1, u216003, u216004, rfl, HA, HK1, HO_216003, HO_216004, BK205, BK215, HI0, HK, HB⟩ := hrel
  cases gk with
  | zero => exact absurd HA.out (by simp [spec_l01DrawRight.l0])
  | succ k1 =>
   have H := HA.out
   clear HA
   simp only [spec_l01DrawRight.l0] at H
   by_cases c13 : x5_1 ≤ (wrap64 (t206 + t212))
   rotate_left
   ·rw [if_neg c13] at H
    have c13b0 : decide (x5_1 ≤ (wrap64 (t206 + t212))) = false := decide_eq_false c13
    clear c13
    simp only [Option.some.injEq, Prod.mk.injEq] at H
    obtain ⟨rfl, rfl, rfl, rfl, rfl, rfl, rfl⟩ := H
    have hnb82 := NB215_205.out
    have hnc82 := NB205_215.out
    have hnb83 := NB215_0.out
    have hnc83 := NB0_215.out
    have hcz84_0 : wr.cell? ⟨gb215, 0, none⟩ = some (.int .i64 t209) := (blk_cell BK215.out 0).trans rfl
    have hcz84_1 : wr.cell? ⟨gb215, 1, none⟩ = some (.int .i64 t206) := (blk_cell BK215.out 1).trans rfl
    have hcz84_2 : wr.cell? ⟨gb215, 2, none⟩ = some (.int .i64 (wrap64 (t206 + t212))) := (blk_cell BK215.out 2).trans rfl
    have hcz84_3 : wr.cell? ⟨gb215, 3, none⟩ = some (u216003) := (blk_cell BK215.out 3).trans rfl
    have hcz84_4 : wr.cell? ⟨gb215, 4, none⟩ = some (u216004) := (blk_cell BK215.out 4).trans rfl
    have hfz84_0 := blk_frozen BK215.out 0
    have hfz84_1 := blk_frozen BK215.out 1
    have hfz84_2 := blk_frozen BK215.out 2
    have hfz84_3 := blk_frozen BK215.out 3
    have hfz84_4 := blk_frozen BK215.out 4
    have hnb85 := NB205_0.out
    have hnc85 := NB0_205.out
    have hcz86_0 : wr.cell? ⟨gb205, 0, none⟩ = some (.int .i64 0) := (blk_cell BK205.out 0).trans rfl
    have hcz86_1 : wr.cell? ⟨gb205, 1, none⟩ = some (.int .i64 0) := (blk_cell BK205.out 1).trans rfl
    have hcz86_2 : wr.cell? ⟨gb205, 2, none⟩ = some (.int .i64 0) := (blk_cell BK205.out 2).trans rfl
    have hcz86_3 : wr.cell? ⟨gb205, 3, none⟩ = some (.slice none 0 0) := (blk_cell BK205.out 3).trans rfl
    have hcz86_4 : wr.cell? ⟨gb205, 4, none⟩ = some (.slice none 0 0) := (blk_cell BK205.out 4).trans rfl
    have hfz86_0 := blk_frozen BK205.out 0
    have hfz86_1 := blk_frozen BK205.out 1
    have hfz86_2 := blk_frozen BK205.out 2
    have hfz86_3 := blk_frozen BK205.out 3
    have hfz86_4 := blk_frozen BK205.out 4
    obtain ⟨Ao87, co87, eo87⟩ := Kd.R_slice HO_216003.out
    subst eo87
    obtain ⟨Ao88, co88, eo88⟩ := Kd.R_slice HO_216004.out
    subst eo88
    go_wp2
    refine bodyPost_ret (results_cell_row rfl _ _ gb205 27 #[.int .i64 t209, .int .i64 t206, .int .i64 (wrap64 (t206 + t212)), .slice Ao87 x216003_1.length co87, .slice Ao88 x216004_1.length co88] (0, 0) _ rfl (by (with_reducible repeat (first | refine blk_drewN ?_ _ | refine blk_drew ?_ | refine blk_alloc ?_ _)); refine blk_put (cs := #[.int .i64 t209, .int .i64 t206, .int .i64 (wrap64 (t206 + t212)), .slice Ao87 x216003_1.length co87, .slice none 0 0]) ?_ 4 _ rfl; (with_reducible repeat (first | refine blk_drewN ?_ _ | refine blk_drew ?_ | refine blk_alloc ?_ _)); refine blk_put (cs := #[.int .i64 t209, .int .i64 t206, .int .i64 (wrap64 (t206 + t212)), .slice none 0 0, .slice none 0 0]) ?_ 3 _ rfl; (with_reducible repeat (first | refine blk_drewN ?_ _ | refine blk_drew ?_ | refine blk_alloc ?_ _)); refine blk_put (cs := #[.int .i64 t209, .int .i64 t206, .int .i64 0, .slice none 0 0, .slice none 0 0]) ?_ 2 _ rfl; (with_reducible repeat (first | refine blk_drewN ?_ _ | refine blk_drew ?_ | refine blk_alloc ?_ _)); refine blk_put (cs := #[.int .i64 t209, .int .i64 0, .int .i64 0, .slice none 0 0, .slice none 0 0]) ?_ 1 _ rfl; (with_reducible repeat (first | refine blk_drewN ?_ _ | refine blk_drew ?_ | refine blk_alloc ?_ _)); refine blk_put (cs := #[.int .i64 0, .int .i64 0, .int .i64 0, .slice none 0 0, .slice none 0 0]) ?_ 0 _ rfl; (with_reducible repeat (first | refine blk_drewN ?_ _ | refine blk_drew ?_ | refine blk_alloc ?_ _)); exact BK205.out) Try.underlying27 rfl (by kernel_rfl)) rfl ?_
    exact ⟨_, _, by first | rfl | (simp [errW_none, errW_some] <;> rfl) | (simp [*, errW_none, errW_some] <;> rfl), by (with_reducible repeat (first | apply Kd.R_alloc | apply Kd.R_drewN | apply Kd.R_drew)); exact Kd.R_mono (Kd.R_far (p := ⟨gb205, 4, none⟩) (Kd.R_far (p := ⟨gb205, 3, none⟩) (Kd.R_far (p := ⟨gb205, 2, none⟩) (Kd.R_far (p := ⟨gb205, 1, none⟩) (Kd.R_far (p := ⟨gb205, 0, none⟩) (Kd.R_types HO_216003.out BK205.out (by decide)) (fun _ hk => hk.2) (.int .i64 t209)) (fun _ hk => hk.2) (.int .i64 t206)) (fun _ hk => hk.2) (.int .i64 (wrap64 (t206 + t212)))) (fun _ hk => hk.2) (.slice Ao87 x216003_1.length co87)) (fun _ hk => hk.2) (.slice Ao88 x216004_1.length co88)) (fun _ hk => hk.1), by (with_reducible repeat (first | apply Kd.R_alloc | apply Kd.R_drewN | apply Kd.R_drew)); exact Kd.R_mono (Kd.R_far (p := ⟨gb205, 4, none⟩) (Kd.R_far (p := ⟨gb205, 3, none⟩) (Kd.R_far (p := ⟨gb205, 2, none⟩) (Kd.R_far (p := ⟨gb205, 1, none⟩) (Kd.R_far (p := ⟨gb205, 0, none⟩) (Kd.R_types HO_216004.out BK205.out (by decide)) (fun _ hk => hk.2) (.int .i64 t209)) (fun _ hk => hk.2) (.int .i64 t206)) (fun _ hk => hk.2) (.int .i64 (wrap64 (t206 + t212)))) (fun _ hk => hk.2) (.slice Ao87 x216003_1.length co87)) (fun _ hk => hk.2) (.slice Ao88 x216004_1.length co88)) (fun _ hk => hk.1), by repeat (first | (with_reducible first | exact HI0.out | apply IsS60.alloc | apply IsS60.drewN | apply IsS60.drew | apply IsS60.set_1 | apply IsS60.set_2 | refine IsS60.far ?_ NB0_205.out _ | refine IsS60.far ?_ NB0_215.out _) | exact HI0.out), by repeat (first | (with_reducible first | exact HB.out | apply below_alloc | apply pw_below_drewN | apply below_drew1 | refine below_set ?_ (IsS60.ge HI0.out) | refine below_set ?_ GE205.out | refine below_set ?_ GE215.out) | exact HB.out), by repeat (first | (with_reducible first | exact HK.out | apply KeepBut.set_ | apply keep_drewN | apply keep_drew | apply keep_alloc | refine keep_far ?_ GW205.out _ | refine keep_far ?_ GW215.out _) | exact HK.out)⟩

   rw [if_pos c13] at H
   have c13b0 : decide (x5_1 ≤ (wrap64 (t206 + t212))) = true := decide_eq_true c13
   clear c13
   replace H := Option.bind_eq_some_iff.mp H
   obtain ⟨⟨t216, t217, t218⟩, A140, H⟩ := H
   try dsimp only at H
   have A14 := Aside0.mk A140
   clear A140
   by_cases c15 : t216 = true
   rotate_left
   ·replace c15 := Bool.eq_false_iff.mpr c15
    subst c15
    have H1 : (spec_l01DrawRight.l0 k1 (wrap64 (x5_1 + 1)) s0_0 t217 t218 t209 t206 (wrap64 (t206 + t212)) x216003_1 x216004_1) = some (r1, r2, r3, r4, r5, r6, r7) := by (first | (rw [if_neg (show ¬ (false = true) by decide)] at H; exact H) | rfl)
    clear H
    have H := H1
    clear H1
    have H' := Aside0.mk H
    clear H
    have hnb78 := NB215_205.out
    have hnc78 := NB205_215.out
    have hnb79 := NB215_0.out
    have hnc79 := NB0_215.out
    have hcz80_0 : wr.cell? ⟨gb215, 0, none⟩ = some (.int .i64 t209) := (blk_cell BK215.out 0).trans rfl
    have hcz80_1 : wr.cell? ⟨gb215, 1, none⟩ = some (.int .i64 t206) := (blk_cell BK215.out 1).trans rfl
    have hcz80_2 : wr.cell? ⟨gb215, 2, none⟩ = some (.int .i64 (wrap64 (t206 + t212))) := (blk_cell BK215.out 2).trans rfl
    have hcz80_3 : wr.cell? ⟨gb215, 3, none⟩ = some (u216003) := (blk_cell BK215.out 3).trans rfl
    have hcz80_4 : wr.cell? ⟨gb215, 4, none⟩ = some (u216004) := (blk_cell BK215.out 4).trans rfl
    have hfz80_0 := blk_frozen BK215.out 0
    have hfz80_1 := blk_frozen BK215.out 1
    have hfz80_2 := blk_frozen BK215.out 2
    have hfz80_3 := blk_frozen BK215.out 3
    have hfz80_4 := blk_frozen BK215.out 4
    go_wp2_with (first | ((with_reducible refine gate_callee (f := 53) rfl ?_); refine goesL_ (some 25) rfl rfl Try.func53 (by kernel_rfl) rfl #[.pointer (some ⟨g, 0, none⟩), .int .i64 9] rfl (by (try simp only [List.map_toArray, List.map_cons, List.map_nil]); first | done | rfl | (simp only [List.length_drop, List.length_take]; rfl)) ?_; (with_reducible refine (spec_l01Once.calls g s0_0 x1001_1 x1002_1 9 false t217 t218 w0 _ ?side1 ?side2 A14.out).mono ?_); (case side1 => exact HI0.out); (case side2 => exact HB.out); rintro e w81 ⟨rfl, hi, hb, hk⟩; refine ⟨_, rfl, ?_⟩; replace HO_216003 := Aside0.mk (Kd.R_mono (Kd.R_keep (IsS60.apart (show IsS60 w0 _ g s0_0 x1001_1 x1002_1 from by repeat (first | (with_reducible first | exact HI0.out | apply IsS60.alloc | apply IsS60.drewN | apply IsS60.drew | apply IsS60.set_1 | apply IsS60.set_2 | refine IsS60.far ?_ NB0_205.out _ | refine IsS60.far ?_ NB0_215.out _) | exact HI0.out)) HO_216003.out (by decide)) hk (fun _ h => h.2)) (fun _ h => h.1)); replace HO_216004 := Aside0.mk (Kd.R_mono (Kd.R_keep (IsS60.apart (show IsS60 w0 _ g s0_0 x1001_1 x1002_1 from by repeat (first | (with_reducible first | exact HI0.out | apply IsS60.alloc | apply IsS60.drewN | apply IsS60.drew | apply IsS60.set_1 | apply IsS60.set_2 | refine IsS60.far ?_ NB0_205.out _ | refine IsS60.far ?_ NB0_215.out _) | exact HI0.out)) HO_216004.out (by decide)) hk (fun _ h => h.2)) (fun _ h => h.1)); replace BK205 := Aside0.mk (KeepBut.blk hk (g' := gb205) (o := .cells #[.int .i64 0, .int .i64 0, .int .i64 0, .slice none 0 0, .slice none 0 0] 27 (0, 0)) BK205.out NB205_0.out (by simp)); replace BK215 := Aside0.mk (KeepBut.blk hk (g' := gb215) (o := .cells #[.int .i64 t209, .int .i64 t206, .int .i64 (wrap64 (t206 + t212)), u216003, u216004] 27 (0, 0)) BK215.out NB215_0.out (by simp)); replace HK := Aside0.mk (KeepBut.trans HK.out hk (.inl rfl)); replace HB := Aside0.mk (hb); replace HI0 := Aside0.mk (hi); (try clear hb); (try clear hb2); (try clear hk); (try clear hi)))
    go_roundg k1
    case measure => have := HK1.out; omega
    case rel => exact ⟨(wrap64 (x5_1 + 1)), (t217), (t218), (x216003_1), (x216004_1), (u216003), (u216004), (by first | rfl | (simp; done) | (simp [*]; done)), H', ⟨by have := HK1.out; omega⟩, ⟨by (with_reducible repeat (first | apply Kd.R_alloc | apply Kd.R_drewN | apply Kd.R_drew)); exact HO_216003.out⟩, ⟨by (with_reducible repeat (first | apply Kd.R_alloc | apply Kd.R_drewN | apply Kd.R_drew)); exact HO_216004.out⟩, ⟨by (with_reducible repeat (first | refine blk_drewN ?_ _ | refine blk_drew ?_ | refine blk_alloc ?_ _)); exact BK205.out⟩, ⟨by (with_reducible repeat (first | refine blk_drewN ?_ _ | refine blk_drew ?_ | refine blk_alloc ?_ _)); exact BK215.out⟩, ⟨by repeat (first | (with_reducible first | exact HI0.out | apply IsS60.alloc | apply IsS60.drewN | apply IsS60.drew | apply IsS60.set_1 | apply IsS60.set_2 | refine IsS60.far ?_ NB0_205.out _ | refine IsS60.far ?_ NB0_215.out _) | exact HI0.out)⟩, ⟨by repeat (first | (with_reducible first | exact HK.out | apply KeepBut.set_ | apply keep_drewN | apply keep_drew | apply keep_alloc | refine keep_far ?_ GW205.out _ | refine keep_far ?_ GW215.out _) | exact HK.out)⟩, ⟨by repeat (first | (with_reducible first | exact HB.out | apply below_alloc | apply pw_below_drewN | apply below_drew1 | refine below_set ?_ (IsS60.ge HI0.out) | refine below_set ?_ GE205.out | refine below_set ?_ GE215.out) | exact HB.out)⟩⟩
   subst c15
   have H1 : ((spec_l01Week.f t209 x5_1).bind fun t219 => (if t219 = true then (spec_l01DrawRight.j1 k1 x5_1 (decide ((x216003_1.length : Int) < 20)) s0_0 t217 t218 t209 t206 (wrap64 (t206 + t212)) x216003_1 x216004_1) else (spec_l01DrawRight.j1 k1 x5_1 false s0_0 t217 t218 t209 t206 (wrap64 (t206 + t212)) x216003_1 x216004_1))) = some (r1, r2, r3, r4, r5, r6, r7) := by (first | (rw [if_pos rfl] at H; exact H) | rfl)
   clear H
   have H := H1
   clear H1
   have HC16 := Aside0.mk H
   clear H
   have hnb17 := NB215_205.out
   have hnc17 := NB205_215.out
   have hnb18 := NB215_0.out
   have hnc18 := NB0_215.out
   have hcz19_0 : wr.cell? ⟨gb215, 0, none⟩ = some (.int .i64 t209) := (blk_cell BK215.out 0).trans rfl
   have hcz19_1 : wr.cell? ⟨gb215, 1, none⟩ = some (.int .i64 t206) := (blk_cell BK215.out 1).trans rfl
   have hcz19_2 : wr.cell? ⟨gb215, 2, none⟩ = some (.int .i64 (wrap64 (t206 + t212))) := (blk_cell BK215.out 2).trans rfl
   have hcz19_3 : wr.cell? ⟨gb215, 3, none⟩ = some (u216003) := (blk_cell BK215.out 3).trans rfl
   have hcz19_4 : wr.cell? ⟨gb215, 4, none⟩ = some (u216004) := (blk_cell BK215.out 4).trans rfl
   have hfz19_0 := blk_frozen BK215.out 0
   have hfz19_1 := blk_frozen BK215.out 1
   have hfz19_2 := blk_frozen BK215.out 2
   have hfz19_3 := blk_frozen BK215.out 3
   have hfz19_4 := blk_frozen BK215.out 4
   go_upto_region 7 with (first | ((with_reducible refine gate_callee (f := 53) rfl ?_); refine goesL_ (some 25) rfl rfl Try.func53 (by kernel_rfl) rfl #[.pointer (some ⟨g, 0, none⟩), .int .i64 9] rfl (by (try simp only [List.map_toArray, List.map_cons, List.map_nil]); first | done | rfl | (simp only [List.length_drop, List.length_take]; rfl)) ?_; (with_reducible refine (spec_l01Once.calls g s0_0 x1001_1 x1002_1 9 true t217 t218 w0 _ ?side1 ?side2 A14.out).mono ?_); (case side1 => exact HI0.out); (case side2 => exact HB.out); rintro e w20 ⟨rfl, hi, hb, hk⟩; refine ⟨_, rfl, ?_⟩; replace HO_216003 := Aside0.mk (Kd.R_mono (Kd.R_keep (IsS60.apart (show IsS60 w0 _ g s0_0 x1001_1 x1002_1 from by repeat (first | (with_reducible first | exact HI0.out | apply IsS60.alloc | apply IsS60.drewN | apply IsS60.drew | apply IsS60.set_1 | apply IsS60.set_2 | refine IsS60.far ?_ NB0_205.out _ | refine IsS60.far ?_ NB0_215.out _) | exact HI0.out)) HO_216003.out (by decide)) hk (fun _ h => h.2)) (fun _ h => h.1)); replace HO_216004 := Aside0.mk (Kd.R_mono (Kd.R_keep (IsS60.apart (show IsS60 w0 _ g s0_0 x1001_1 x1002_1 from by repeat (first | (with_reducible first | exact HI0.out | apply IsS60.alloc | apply IsS60.drewN | apply IsS60.drew | apply IsS60.set_1 | apply IsS60.set_2 | refine IsS60.far ?_ NB0_205.out _ | refine IsS60.far ?_ NB0_215.out _) | exact HI0.out)) HO_216004.out (by decide)) hk (fun _ h => h.2)) (fun _ h => h.1)); replace BK205 := Aside0.mk (KeepBut.blk hk (g' := gb205) (o := .cells #[.int .i64 0, .int .i64 0, .int .i64 0, .slice none 0 0, .slice none 0 0] 27 (0, 0)) BK205.out NB205_0.out (by simp)); replace BK215 := Aside0.mk (KeepBut.blk hk (g' := gb215) (o := .cells #[.int .i64 t209, .int .i64 t206, .int .i64 (wrap64 (t206 + t212)), u216003, u216004] 27 (0, 0)) BK215.out NB215_0.out (by simp)); replace HK := Aside0.mk (KeepBut.trans HK.out hk (.inl rfl)); replace HB := Aside0.mk (hb); replace HI0 := Aside0.mk (hi); (try clear hb); (try clear hb2); (try clear hk); (try clear hi)))
   (try simp only [Act.put, List.setIfInBounds_toArray, List.set_cons_zero, List.set_cons_succ])
   go_cut [35] (fun v35 wc => ∃ (kq : Nat) (x35_15 : Bool), v35 = .bool x35_15 ∧ Aside0 (spec_l01DrawRight.j1 kq x5_1 x35_15 s0_0 t217 t218 t209 t206 (wrap64 (t206 + t212)) x216003_1 x216004_1 = some (r1, r2, r3, r4, r5, r6, r7)) ∧ Aside0 (kq ≤ k1) ∧ Aside0 (Kd.R (Kd.int .i64) 3 wc w.heap.size (fun k_ => some k_ ≠ (u216004 : Value).ownBlock) u216003 x216003_1) ∧ Aside0 (Kd.R (Kd.int .i64) 3 wc w.heap.size (fun k_ => some k_ ≠ (u216003 : Value).ownBlock) u216004 x216004_1) ∧ Aside0 (wc.heap[gb205]? = some (.cells #[.int .i64 0, .int .i64 0, .int .i64 0, (.slice none 0 0), (.slice none 0 0)] 27 (0, 0))) ∧ Aside0 (wc.heap[gb215]? = some (.cells #[.int .i64 t209, .int .i64 t206, .int .i64 (wrap64 (t206 + t212)), u216003, u216004] 27 (0, 0))) ∧ Aside0 (IsS60 w0 wc g s0_0 t217 t218) ∧ Aside0 (KeepBut w wc g none) ∧ Aside0 (Below w0.heap.size w0 wc))
   case first =>
    have H := HC16.out
    clear HC16
    replace H := Option.bind_eq_some_iff.mp H
    obtain ⟨t219, A210, H⟩ := H
    try dsimp only at H
    have A21 := Aside0.mk A210
    clear A210
    by_cases c22 : t219 = true
    rotate_left
    ·replace c22 := Bool.eq_false_iff.mpr c22
     subst c22
     have H1 : (spec_l01DrawRight.j1 k1 x5_1 false s0_0 t217 t218 t209 t206 (wrap64 (t206 + t212)) x216003_1 x216004_1) = some (r1, r2, r3, r4, r5, r6, r7) := by (first | (rw [if_neg (show ¬ (false = true) by decide)] at H; exact H) | rfl)
     clear H
     have H := H1
     clear H1
     have H' := Aside0.mk H
     clear H
     have hnb27 := NB215_205.out
     have hnc27 := NB205_215.out
     have hnb28 := NB215_0.out
     have hnc28 := NB0_215.out
     have hcz29_0 : w20.cell? ⟨gb215, 0, none⟩ = some (.int .i64 t209) := (blk_cell BK215.out 0).trans rfl
     have hcz29_1 : w20.cell? ⟨gb215, 1, none⟩ = some (.int .i64 t206) := (blk_cell BK215.out 1).trans rfl
     have hcz29_2 : w20.cell? ⟨gb215, 2, none⟩ = some (.int .i64 (wrap64 (t206 + t212))) := (blk_cell BK215.out 2).trans rfl
     have hcz29_3 : w20.cell? ⟨gb215, 3, none⟩ = some (u216003) := (blk_cell BK215.out 3).trans rfl
     have hcz29_4 : w20.cell? ⟨gb215, 4, none⟩ = some (u216004) := (blk_cell BK215.out 4).trans rfl
     have hfz29_0 := blk_frozen BK215.out 0
     have hfz29_1 := blk_frozen BK215.out 1
     have hfz29_2 := blk_frozen BK215.out 2
     have hfz29_3 := blk_frozen BK215.out 3
     have hfz29_4 := blk_frozen BK215.out 4
     go_wp2_with (first | ((with_reducible refine gate_callee (f := 40) rfl ?_); refine goesL_ (some 29) rfl rfl Try.func40 (by kernel_rfl) rfl #[.int .i64 t209, .int .i64 x5_1] rfl (by (try simp only [List.map_toArray, List.map_cons, List.map_nil]); first | done | rfl | (simp only [List.length_drop, List.length_take]; rfl)) ?_; (with_reducible refine (spec_l01Week.calls t209 x5_1 false _ A21.out).mono ?_); rintro e w' ⟨rfl, ⟨nd, rfl⟩⟩; refine ⟨_, rfl, ?_⟩))
     go_meet
     case rel => exact ⟨_, (false), (by first | rfl | (simp; done) | (simp [*]; done)), H', ⟨by have := HK1.out; first | omega | exact Nat.le_refl _⟩, ⟨by (with_reducible repeat (first | apply Kd.R_alloc | apply Kd.R_drewN | apply Kd.R_drew)); exact HO_216003.out⟩, ⟨by (with_reducible repeat (first | apply Kd.R_alloc | apply Kd.R_drewN | apply Kd.R_drew)); exact HO_216004.out⟩, ⟨by (with_reducible repeat (first | refine blk_drewN ?_ _ | refine blk_drew ?_ | refine blk_alloc ?_ _)); exact BK205.out⟩, ⟨by (with_reducible repeat (first | refine blk_drewN ?_ _ | refine blk_drew ?_ | refine blk_alloc ?_ _)); exact BK215.out⟩, ⟨by repeat (first | (with_reducible first | exact HI0.out | apply IsS60.alloc | apply IsS60.drewN | apply IsS60.drew | apply IsS60.set_1 | apply IsS60.set_2 | refine IsS60.far ?_ NB0_205.out _ | refine IsS60.far ?_ NB0_215.out _) | exact HI0.out)⟩, ⟨by repeat (first | (with_reducible first | exact HK.out | apply KeepBut.set_ | apply keep_drewN | apply keep_drew | apply keep_alloc | refine keep_far ?_ GW205.out _ | refine keep_far ?_ GW215.out _) | exact HK.out)⟩, ⟨by repeat (first | (with_reducible first | exact HB.out | apply below_alloc | apply pw_below_drewN | apply below_drew1 | refine below_set ?_ (IsS60.ge HI0.out) | refine below_set ?_ GE205.out | refine below_set ?_ GE215.out) | exact HB.out)⟩⟩
    subst c22
    have H1 : (spec_l01DrawRight.j1 k1 x5_1 (decide ((x216003_1.length : Int) < 20)) s0_0 t217 t218 t209 t206 (wrap64 (t206 + t212)) x216003_1 x216004_1) = some (r1, r2, r3, r4, r5, r6, r7) := by (first | (rw [if_pos rfl] at H; exact H) | rfl)
    clear H
    have H := H1
    clear H1
    have H' := Aside0.mk H
    clear H
    have hnb23 := NB215_205.out
    have hnc23 := NB205_215.out
    have hnb24 := NB215_0.out
    have hnc24 := NB0_215.out
    have hcz25_0 : w20.cell? ⟨gb215, 0, none⟩ = some (.int .i64 t209) := (blk_cell BK215.out 0).trans rfl
    have hcz25_1 : w20.cell? ⟨gb215, 1, none⟩ = some (.int .i64 t206) := (blk_cell BK215.out 1).trans rfl
    have hcz25_2 : w20.cell? ⟨gb215, 2, none⟩ = some (.int .i64 (wrap64 (t206 + t212))) := (blk_cell BK215.out 2).trans rfl
    have hcz25_3 : w20.cell? ⟨gb215, 3, none⟩ = some (u216003) := (blk_cell BK215.out 3).trans rfl
    have hcz25_4 : w20.cell? ⟨gb215, 4, none⟩ = some (u216004) := (blk_cell BK215.out 4).trans rfl
    have hfz25_0 := blk_frozen BK215.out 0
    have hfz25_1 := blk_frozen BK215.out 1
    have hfz25_2 := blk_frozen BK215.out 2
    have hfz25_3 := blk_frozen BK215.out 3
    have hfz25_4 := blk_frozen BK215.out 4
    go_wp2_with (first | ((with_reducible refine gate_callee (f := 40) rfl ?_); refine goesL_ (some 29) rfl rfl Try.func40 (by kernel_rfl) rfl #[.int .i64 t209, .int .i64 x5_1] rfl (by (try simp only [List.map_toArray, List.map_cons, List.map_nil]); first | done | rfl | (simp only [List.length_drop, List.length_take]; rfl)) ?_; (with_reducible refine (spec_l01Week.calls t209 x5_1 true _ A21.out).mono ?_); rintro e w' ⟨rfl, ⟨nd, rfl⟩⟩; refine ⟨_, rfl, ?_⟩; obtain ⟨Ao26, co26, eo26⟩ := Kd.R_slice HO_216003.out; subst eo26))
    go_meet
    case rel => exact ⟨_, (decide ((x216003_1.length : Int) < 20)), (by first | rfl | (simp; done) | (simp [*]; done)), H', ⟨by have := HK1.out; first | omega | exact Nat.le_refl _⟩, ⟨by (with_reducible repeat (first | apply Kd.R_alloc | apply Kd.R_drewN | apply Kd.R_drew)); exact HO_216003.out⟩, ⟨by (with_reducible repeat (first | apply Kd.R_alloc | apply Kd.R_drewN | apply Kd.R_drew)); exact HO_216004.out⟩, ⟨by (with_reducible repeat (first | refine blk_drewN ?_ _ | refine blk_drew ?_ | refine blk_alloc ?_ _)); exact BK205.out⟩, ⟨by (with_reducible repeat (first | refine blk_drewN ?_ _ | refine blk_drew ?_ | refine blk_alloc ?_ _)); exact BK215.out⟩, ⟨by repeat (first | (with_reducible first | exact HI0.out | apply IsS60.alloc | apply IsS60.drewN | apply IsS60.drew | apply IsS60.set_1 | apply IsS60.set_2 | refine IsS60.far ?_ NB0_205.out _ | refine IsS60.far ?_ NB0_215.out _) | exact HI0.out)⟩, ⟨by repeat (first | (with_reducible first | exact HK.out | apply KeepBut.set_ | apply keep_drewN | apply keep_drew | apply keep_alloc | refine keep_far ?_ GW205.out _ | refine keep_far ?_ GW215.out _) | exact HK.out)⟩, ⟨by repeat (first | (with_reducible first | exact HB.out | apply below_alloc | apply pw_below_drewN | apply below_drew1 | refine below_set ?_ (IsS60.ge HI0.out) | refine below_set ?_ GE205.out | refine below_set ?_ GE215.out) | exact HB.out)⟩⟩
   case rest =>
    clear HC16
    try clear c1
    try clear c2
    try clear p2
    try clear c4
    try clear c5
    try clear p6
    try clear c10
    try clear c11
    try clear c13
    try clear c13b0
    try clear c15
    try clear c17
    try clear c18
    try clear c22
    try clear c23
    try clear c24
    try clear c27
    try clear c28
    try clear hcz12_0
    try clear hcz12_1
    try clear hcz12_2
    try clear hcz12_3
    try clear hcz12_4
    try clear hcz19_0
    try clear hcz19_1
    try clear hcz19_2
    try clear hcz19_3
    try clear hcz19_4
    try clear hcz25_0
    try clear hcz25_1
    try clear hcz25_2
    try clear hcz25_3
    try clear hcz25_4
    try clear hcz29_0
    try clear hcz29_1
    try clear hcz29_2
    try clear hcz29_3
    try clear hcz29_4
    try clear hfz12_0
    try clear hfz12_1
    try clear hfz12_2
    try clear hfz12_3
    try clear hfz12_4
    try clear hfz19_0
    try clear hfz19_1
    try clear hfz19_2
    try clear hfz19_3
    try clear hfz19_4
    try clear hfz25_0
    try clear hfz25_1
    try clear hfz25_2
    try clear hfz25_3
    try clear hfz25_4
    try clear hfz29_0
    try clear hfz29_1
    try clear hfz29_2
    try clear hfz29_3
    try clear hfz29_4
    try clear p2
    try clear p6
    obtain ⟨kq, x35_15, rfl, HA, HJ15, HO_216003, HO_216004, BK205, BK215, HI0, HK, HB⟩ := hcut
    cases kq with
    | zero => exact absurd HA.out (by simp [spec_l01DrawRight.j1])
    | succ kj15 =>
     have H := HA.out
     clear HA
     simp only [spec_l01DrawRight.j1] at H
     by_cases c30 : x35_15 = true
     rotate_left
     ·replace c30 := Bool.eq_false_iff.mpr c30
      subst c30
      have H1 : ((spec_l01Week.f t209 x5_1).bind fun t227 => (if t227 = true then (spec_l01DrawRight.l0 kj15 (wrap64 (x5_1 + 1)) s0_0 t217 t218 t209 t206 (wrap64 (t206 + t212)) x216003_1 x216004_1) else (if (x216004_1.length : Int) < 20 then (if x216004_1.length < 17592186044416 then (spec_l01DrawRight.l0 kj15 (wrap64 (x5_1 + 1)) s0_0 t217 t218 t209 t206 (wrap64 (t206 + t212)) x216003_1 (x216004_1 ++ [x5_1])) else (none)) else (spec_l01DrawRight.l0 kj15 (wrap64 (x5_1 + 1)) s0_0 t217 t218 t209 t206 (wrap64 (t206 + t212)) x216003_1 x216004_1)))) = some (r1, r2, r3, r4, r5, r6, r7) := by (first | (rw [if_neg (show ¬ (false = true) by decide)] at H; exact H) | rfl)
      clear H
      have H := H1
      clear H1
      replace H := Option.bind_eq_some_iff.mp H
      obtain ⟨t227, A590, H⟩ := H
      try dsimp only at H
      have A59 := Aside0.mk A590
      clear A590
      by_cases c60 : t227 = true
      rotate_left
      ·replace c60 := Bool.eq_false_iff.mpr c60
       subst c60
       have H1 : (if (x216004_1.length : Int) < 20 then (if x216004_1.length < 17592186044416 then (spec_l01DrawRight.l0 kj15 (wrap64 (x5_1 + 1)) s0_0 t217 t218 t209 t206 (wrap64 (t206 + t212)) x216003_1 (x216004_1 ++ [x5_1])) else (none)) else (spec_l01DrawRight.l0 kj15 (wrap64 (x5_1 + 1)) s0_0 t217 t218 t209 t206 (wrap64 (t206 + t212)) x216003_1 x216004_1)) = some (r1, r2, r3, r4, r5, r6, r7) := by (first | (rw [if_neg (show ¬ (false = true) by decide)] at H; exact H) | rfl)
       clear H
       have H := H1
       clear H1
       by_cases c64 : (x216004_1.length : Int) < 20
       rotate_left
       ·rw [if_neg c64] at H
        have c64b0 : decide ((x216004_1.length : Int) < 20) = false := decide_eq_false c64
        have c64b1 : decide (x216004_1.length < 20) = false := decide_eq_false (by omega)
        clear c64
        have H' := Aside0.mk H
        clear H
        have hnb74 := NB215_205.out
        have hnc74 := NB205_215.out
        have hnb75 := NB215_0.out
        have hnc75 := NB0_215.out
        have hcz76_0 : wc.cell? ⟨gb215, 0, none⟩ = some (.int .i64 t209) := (blk_cell BK215.out 0).trans rfl
        have hcz76_1 : wc.cell? ⟨gb215, 1, none⟩ = some (.int .i64 t206) := (blk_cell BK215.out 1).trans rfl
        have hcz76_2 : wc.cell? ⟨gb215, 2, none⟩ = some (.int .i64 (wrap64 (t206 + t212))) := (blk_cell BK215.out 2).trans rfl
        have hcz76_3 : wc.cell? ⟨gb215, 3, none⟩ = some (u216003) := (blk_cell BK215.out 3).trans rfl
        have hcz76_4 : wc.cell? ⟨gb215, 4, none⟩ = some (u216004) := (blk_cell BK215.out 4).trans rfl
        have hfz76_0 := blk_frozen BK215.out 0
        have hfz76_1 := blk_frozen BK215.out 1
        have hfz76_2 := blk_frozen BK215.out 2
        have hfz76_3 := blk_frozen BK215.out 3
        have hfz76_4 := blk_frozen BK215.out 4
        go_wp2_with (first | ((with_reducible refine gate_callee (f := 40) rfl ?_); refine goesL_ (some 45) rfl rfl Try.func40 (by kernel_rfl) rfl #[.int .i64 t209, .int .i64 x5_1] rfl (by (try simp only [List.map_toArray, List.map_cons, List.map_nil]); first | done | rfl | (simp only [List.length_drop, List.length_take]; rfl)) ?_; (with_reducible refine (spec_l01Week.calls t209 x5_1 false _ A59.out).mono ?_); rintro e w' ⟨rfl, ⟨nd, rfl⟩⟩; refine ⟨_, rfl, ?_⟩; obtain ⟨Ao77, co77, eo77⟩ := Kd.R_slice HO_216004.out; subst eo77))
        go_roundg kj15
        case measure => have := HK1.out; have := HJ15.out; omega
        case rel => exact ⟨(wrap64 (x5_1 + 1)), (t217), (t218), (x216003_1), (x216004_1), (u216003), (.slice Ao77 x216004_1.length co77), (by first | rfl | (simp; done) | (simp [*]; done)), H', ⟨by have := HK1.out; have := HJ15.out; omega⟩, ⟨by (with_reducible repeat (first | apply Kd.R_alloc | apply Kd.R_drewN | apply Kd.R_drew)); exact HO_216003.out⟩, ⟨by (with_reducible repeat (first | apply Kd.R_alloc | apply Kd.R_drewN | apply Kd.R_drew)); exact HO_216004.out⟩, ⟨by (with_reducible repeat (first | refine blk_drewN ?_ _ | refine blk_drew ?_ | refine blk_alloc ?_ _)); exact BK205.out⟩, ⟨by (with_reducible repeat (first | refine blk_drewN ?_ _ | refine blk_drew ?_ | refine blk_alloc ?_ _)); exact BK215.out⟩, ⟨by repeat (first | (with_reducible first | exact HI0.out | apply IsS60.alloc | apply IsS60.drewN | apply IsS60.drew | apply IsS60.set_1 | apply IsS60.set_2 | refine IsS60.far ?_ NB0_205.out _ | refine IsS60.far ?_ NB0_215.out _) | exact HI0.out)⟩, ⟨by repeat (first | (with_reducible first | exact HK.out | apply KeepBut.set_ | apply keep_drewN | apply keep_drew | apply keep_alloc | refine keep_far ?_ GW205.out _ | refine keep_far ?_ GW215.out _) | exact HK.out)⟩, ⟨by repeat (first | (with_reducible first | exact HB.out | apply below_alloc | apply pw_below_drewN | apply below_drew1 | refine below_set ?_ (IsS60.ge HI0.out) | refine below_set ?_ GE205.out | refine below_set ?_ GE215.out) | exact HB.out)⟩⟩
       rw [if_pos c64] at H
       have c64b0 : decide ((x216004_1.length : Int) < 20) = true := decide_eq_true c64
       have c64b1 : decide (x216004_1.length < 20) = true := decide_eq_true (by omega)
       clear c64
       by_cases c65 : x216004_1.length < 17592186044416
       rotate_left
       ·rw [if_neg c65] at H
        exact absurd H (by simp)
       rw [if_pos c65] at H
       have LMc65 := Aside0.mk c65
       clear c65
       obtain ⟨y228, hy228⟩ : ∃ y_ : List Int, y_ = (x216004_1 ++ [x5_1]) := ⟨_, rfl⟩
       replace H : (spec_l01DrawRight.l0 kj15 (wrap64 (x5_1 + 1)) s0_0 t217 t218 t209 t206 (wrap64 (t206 + t212)) x216003_1 y228) = some (r1, r2, r3, r4, r5, r6, r7) := by first | (rw [hy228]; with_reducible exact H) | (have H2_ := (Option.bind_some _ _).symm.trans H; rw [hy228]; with_reducible exact H2_) | (have H2_ := (Option.bind_some _ _).symm.trans H; with_reducible exact H2_) | with_reducible exact H | (rw [hy228]; exact H) | exact H
       have Ny228 := Aside0.mk hy228
       clear hy228
       have H' := Aside0.mk H
       clear H
       have hnb66 := NB215_205.out
       have hnc66 := NB205_215.out
       have hnb67 := NB215_0.out
       have hnc67 := NB0_215.out
       have hcz68_0 : wc.cell? ⟨gb215, 0, none⟩ = some (.int .i64 t209) := (blk_cell BK215.out 0).trans rfl
       have hcz68_1 : wc.cell? ⟨gb215, 1, none⟩ = some (.int .i64 t206) := (blk_cell BK215.out 1).trans rfl
       have hcz68_2 : wc.cell? ⟨gb215, 2, none⟩ = some (.int .i64 (wrap64 (t206 + t212))) := (blk_cell BK215.out 2).trans rfl
       have hcz68_3 : wc.cell? ⟨gb215, 3, none⟩ = some (u216003) := (blk_cell BK215.out 3).trans rfl
       have hcz68_4 : wc.cell? ⟨gb215, 4, none⟩ = some (u216004) := (blk_cell BK215.out 4).trans rfl
       have hfz68_0 := blk_frozen BK215.out 0
       have hfz68_1 := blk_frozen BK215.out 1
       have hfz68_2 := blk_frozen BK215.out 2
       have hfz68_3 := blk_frozen BK215.out 3
       have hfz68_4 := blk_frozen BK215.out 4
       go_wp2_with (first | ((with_reducible refine gate_callee (f := 40) rfl ?_); refine goesL_ (some 45) rfl rfl Try.func40 (by kernel_rfl) rfl #[.int .i64 t209, .int .i64 x5_1] rfl (by (try simp only [List.map_toArray, List.map_cons, List.map_nil]); first | done | rfl | (simp only [List.length_drop, List.length_take]; rfl)) ?_; (with_reducible refine (spec_l01Week.calls t209 x5_1 false _ A59.out).mono ?_); rintro e w' ⟨rfl, ⟨nd, rfl⟩⟩; refine ⟨_, rfl, ?_⟩; (first | (rw [drewN_self wc]; generalize hq_ : World.drewN wc _ = wc; replace HO_216003 : Aside0 (Kd.R (Kd.int .i64) 3 wc w.heap.size (fun k_ => some k_ ≠ (u216004 : Value).ownBlock) u216003 x216003_1) := ⟨by rw [← hq_]; exact (by (with_reducible repeat (first | apply Kd.R_alloc | apply Kd.R_drewN | apply Kd.R_drew)); exact HO_216003.out)⟩; replace HO_216004 : Aside0 (Kd.R (Kd.int .i64) 3 wc w.heap.size (fun k_ => some k_ ≠ (u216003 : Value).ownBlock) u216004 x216004_1) := ⟨by rw [← hq_]; exact (by (with_reducible repeat (first | apply Kd.R_alloc | apply Kd.R_drewN | apply Kd.R_drew)); exact HO_216004.out)⟩; replace BK205 : Aside0 (wc.heap[gb205]? = some (.cells #[.int .i64 0, .int .i64 0, .int .i64 0, .slice none 0 0, .slice none 0 0] 27 (0, 0))) := ⟨by rw [← hq_]; exact (by (with_reducible repeat (first | refine blk_drewN ?_ _ | refine blk_drew ?_ | refine blk_alloc ?_ _)); exact BK205.out)⟩; replace BK215 : Aside0 (wc.heap[gb215]? = some (.cells #[.int .i64 t209, .int .i64 t206, .int .i64 (wrap64 (t206 + t212)), u216003, u216004] 27 (0, 0))) := ⟨by rw [← hq_]; exact (by (with_reducible repeat (first | refine blk_drewN ?_ _ | refine blk_drew ?_ | refine blk_alloc ?_ _)); exact BK215.out)⟩; replace HK : Aside0 (KeepBut w wc g none) := ⟨by rw [← hq_]; exact (by repeat (first | (with_reducible first | exact HK.out | apply KeepBut.set_ | apply keep_drewN | apply keep_drew | apply keep_alloc | refine keep_far ?_ GW205.out _ | refine keep_far ?_ GW215.out _) | exact HK.out))⟩; replace HB : Aside0 (Below w0.heap.size w0 wc) := ⟨by rw [← hq_]; exact (by repeat (first | (with_reducible first | exact HB.out | apply below_alloc | apply pw_below_drewN | apply below_drew1 | refine below_set ?_ (IsS60.ge HI0.out) | refine below_set ?_ GE205.out | refine below_set ?_ GE215.out) | exact HB.out))⟩; replace HI0 : Aside0 (IsS60 w0 wc g s0_0 t217 t218) := ⟨by rw [← hq_]; exact (by repeat (first | (with_reducible first | exact HI0.out | apply IsS60.alloc | apply IsS60.drewN | apply IsS60.drew | apply IsS60.set_1 | apply IsS60.set_2 | refine IsS60.far ?_ NB0_205.out _ | refine IsS60.far ?_ NB0_215.out _) | exact HI0.out))⟩; clear hq_) | (have n0_ : Aside0 (Kd.R (Kd.int .i64) 3 wc w.heap.size (fun k_ => some k_ ≠ (u216004 : Value).ownBlock) u216003 x216003_1) := ⟨(by (with_reducible repeat (first | apply Kd.R_alloc | apply Kd.R_drewN | apply Kd.R_drew)); exact HO_216003.out)⟩; have n1_ : Aside0 (Kd.R (Kd.int .i64) 3 wc w.heap.size (fun k_ => some k_ ≠ (u216003 : Value).ownBlock) u216004 x216004_1) := ⟨(by (with_reducible repeat (first | apply Kd.R_alloc | apply Kd.R_drewN | apply Kd.R_drew)); exact HO_216004.out)⟩; have n2_ : Aside0 (wc.heap[gb205]? = some (.cells #[.int .i64 0, .int .i64 0, .int .i64 0, .slice none 0 0, .slice none 0 0] 27 (0, 0))) := ⟨(by (with_reducible repeat (first | refine blk_drewN ?_ _ | refine blk_drew ?_ | refine blk_alloc ?_ _)); exact BK205.out)⟩; have n3_ : Aside0 (wc.heap[gb215]? = some (.cells #[.int .i64 t209, .int .i64 t206, .int .i64 (wrap64 (t206 + t212)), u216003, u216004] 27 (0, 0))) := ⟨(by (with_reducible repeat (first | refine blk_drewN ?_ _ | refine blk_drew ?_ | refine blk_alloc ?_ _)); exact BK215.out)⟩; have n4_ : Aside0 (IsS60 w0 wc g s0_0 t217 t218) := ⟨(by repeat (first | (with_reducible first | exact HI0.out | apply IsS60.alloc | apply IsS60.drewN | apply IsS60.drew | apply IsS60.set_1 | apply IsS60.set_2 | refine IsS60.far ?_ NB0_205.out _ | refine IsS60.far ?_ NB0_215.out _) | exact HI0.out))⟩; have n5_ : Aside0 (KeepBut w wc g none) := ⟨(by repeat (first | (with_reducible first | exact HK.out | apply KeepBut.set_ | apply keep_drewN | apply keep_drew | apply keep_alloc | refine keep_far ?_ GW205.out _ | refine keep_far ?_ GW215.out _) | exact HK.out))⟩; have n6_ : Aside0 (Below w0.heap.size w0 wc) := ⟨(by repeat (first | (with_reducible first | exact HB.out | apply below_alloc | apply pw_below_drewN | apply below_drew1 | refine below_set ?_ (IsS60.ge HI0.out) | refine below_set ?_ GE205.out | refine below_set ?_ GE215.out) | exact HB.out))⟩; clear HO_216003 HO_216004 BK205 BK215 HI0 HK HB; have HO_216003 := n0_; have HO_216004 := n1_; have BK205 := n2_; have BK215 := n3_; have HI0 := n4_; have HK := n5_; have HB := n6_; clear n0_ n1_ n2_ n3_ n4_ n5_ n6_)); have hcz69_0 : wc.cell? ⟨gb215, 0, none⟩ = some (.int .i64 t209) := (blk_cell BK215.out 0).trans rfl; have hcz69_1 : wc.cell? ⟨gb215, 1, none⟩ = some (.int .i64 t206) := (blk_cell BK215.out 1).trans rfl; have hcz69_2 : wc.cell? ⟨gb215, 2, none⟩ = some (.int .i64 (wrap64 (t206 + t212))) := (blk_cell BK215.out 2).trans rfl; have hcz69_3 : wc.cell? ⟨gb215, 3, none⟩ = some (u216003) := (blk_cell BK215.out 3).trans rfl; have hcz69_4 : wc.cell? ⟨gb215, 4, none⟩ = some (u216004) := (blk_cell BK215.out 4).trans rfl; have hfz69_0 := blk_frozen BK215.out 0; have hfz69_1 := blk_frozen BK215.out 1; have hfz69_2 := blk_frozen BK215.out 2; have hfz69_3 := blk_frozen BK215.out 3; have hfz69_4 := blk_frozen BK215.out 4; obtain ⟨Ao70, co70, eo70⟩ := Kd.R_slice HO_216004.out; subst eo70) | ((with_reducible refine gate_builtin (b := .append) (xs := #[.tmp 54, .tmp 56]) rfl ?_); (try (refine gate_guard (by rfl) ?_; dsimp only)); at_builtin; refine Kd.R_append (Kd.int .i64) w.heap.size rfl (.tmp 54) (.tmp 56) 22 3 (.int .i64 0) 8 rfl Try.underlying22 info3 rfl (by decide) (by omega) (.slice Ao70 x216004_1.length co70) x216004_1 x5_1 [.int .i64 x5_1] (fun k_ => some k_ ≠ (u216003 : Value).ownBlock) (fun _ => False) rfl rfl ?aP (fun _ hk => hk.elim) ?aF ?aO (Below.refl _ _) ?aS ?aL ?_; (case aP => exact rfl); (case aF => exact (fun k_ hk => Kd.fresh' (Kd.R_lt HO_216003.out) k_ hk)); (case aO => exact HO_216004.out); (case aS => exact (keep_size (w := w) (g := g) (row := none) HK.out)); (case aL => have := LMc65.out; omega); intro v229 w71 ho hb hg hat; rw [← Ny228.out] at ho; replace HO_216003 := Aside0.mk (Kd.R_after (ok := (fun _ => True)) (Kd.R_mono HO_216003.out (fun _ hk => ⟨trivial, hk⟩)) hg hat); replace BK205 := Aside0.mk (blk_grown (g := gb205) (o := .cells #[.int .i64 0, .int .i64 0, .int .i64 0, .slice none 0 0, .slice none 0 0] 27 (0, 0)) BK205.out hg (Kd.R_ne HO_216004.out BK205.out (by decide))); replace BK215 := Aside0.mk (blk_grown (g := gb215) (o := .cells #[.int .i64 t209, .int .i64 t206, .int .i64 (wrap64 (t206 + t212)), u216003, .slice Ao70 x216004_1.length co70] 27 (0, 0)) BK215.out hg (Kd.R_ne HO_216004.out BK215.out (by decide))); replace HI0 := Aside0.mk (IsS60.grown (by (first | (with_reducible exact IsS60.drewN (IsS60.far HI0.out NB0_205.out _) _) | (with_reducible exact IsS60.far HI0.out NB0_205.out _) | (with_reducible exact IsS60.drewN (IsS60.far HI0.out NB0_215.out _) _) | (with_reducible exact IsS60.far HI0.out NB0_215.out _) | skip); repeat (first | (with_reducible first | exact HI0.out | apply IsS60.alloc | apply IsS60.drewN | apply IsS60.drew | apply IsS60.set_1 | apply IsS60.set_2 | refine IsS60.far ?_ NB0_205.out _ | refine IsS60.far ?_ NB0_215.out _) | exact HI0.out)) hg (IsS60.own_ne HI0.out HO_216004.out (by decide))); replace HB := Aside0.mk (below_weaken HB.out HL.out hb); replace HK := Aside0.mk (KeepBut.trans HK.out (KeepBut.of_grown hg g) (Kd.R_base2 HO_216004.out)); have HO230 := Aside0.mk (ho); clear HO_216004; clear ho hb hg hat; obtain ⟨Ao72, co72, eo72⟩ := Kd.R_slice HO230.out; subst eo72; have hcz73_0 : w71.cell? ⟨gb215, 0, none⟩ = some (.int .i64 t209) := (blk_cell BK215.out 0).trans rfl; have hcz73_1 : w71.cell? ⟨gb215, 1, none⟩ = some (.int .i64 t206) := (blk_cell BK215.out 1).trans rfl; have hcz73_2 : w71.cell? ⟨gb215, 2, none⟩ = some (.int .i64 (wrap64 (t206 + t212))) := (blk_cell BK215.out 2).trans rfl; have hcz73_3 : w71.cell? ⟨gb215, 3, none⟩ = some (u216003) := (blk_cell BK215.out 3).trans rfl; have hcz73_4 : w71.cell? ⟨gb215, 4, none⟩ = some (.slice Ao70 x216004_1.length co70) := (blk_cell BK215.out 4).trans rfl; have hfz73_0 := blk_frozen BK215.out 0; have hfz73_1 := blk_frozen BK215.out 1; have hfz73_2 := blk_frozen BK215.out 2; have hfz73_3 := blk_frozen BK215.out 3; have hfz73_4 := blk_frozen BK215.out 4))
       go_roundg kj15
       case measure => have := HK1.out; have := HJ15.out; omega
       case rel => exact ⟨(wrap64 (x5_1 + 1)), (t217), (t218), (x216003_1), (y228), (u216003), (.slice Ao72 y228.length co72), (by first | rfl | (simp; done) | (simp [*]; done)), H', ⟨by have := HK1.out; have := HJ15.out; omega⟩, ⟨by (with_reducible repeat (first | apply Kd.R_alloc | apply Kd.R_drewN | apply Kd.R_drew)); exact Kd.R_mono (Kd.R_far (p := ⟨gb215, 4, none⟩) (Kd.R_types HO_216003.out BK215.out (by decide)) (fun _ hk => hk.2) (.slice Ao72 y228.length co72)) (fun _ hk => hk.1.2)⟩, ⟨by (with_reducible repeat (first | apply Kd.R_alloc | apply Kd.R_drewN | apply Kd.R_drew)); exact Kd.R_mono (Kd.R_far (p := ⟨gb215, 4, none⟩) (Kd.R_types HO230.out BK215.out (by decide)) (fun _ hk => hk.2) (.slice Ao72 y228.length co72)) (fun _ hk => hk.1)⟩, ⟨by (with_reducible repeat (first | refine blk_drewN ?_ _ | refine blk_drew ?_ | refine blk_alloc ?_ _)); refine blk_far ?_ NB205_215.out _; (with_reducible repeat (first | refine blk_drewN ?_ _ | refine blk_drew ?_ | refine blk_alloc ?_ _)); exact BK205.out⟩, ⟨by (with_reducible repeat (first | refine blk_drewN ?_ _ | refine blk_drew ?_ | refine blk_alloc ?_ _)); refine blk_put (cs := #[.int .i64 t209, .int .i64 t206, .int .i64 (wrap64 (t206 + t212)), u216003, .slice Ao70 x216004_1.length co70]) ?_ 4 _ rfl; (with_reducible repeat (first | refine blk_drewN ?_ _ | refine blk_drew ?_ | refine blk_alloc ?_ _)); exact BK215.out⟩, ⟨by repeat (first | (with_reducible first | exact HI0.out | apply IsS60.alloc | apply IsS60.drewN | apply IsS60.drew | apply IsS60.set_1 | apply IsS60.set_2 | refine IsS60.far ?_ NB0_205.out _ | refine IsS60.far ?_ NB0_215.out _) | exact HI0.out)⟩, ⟨by repeat (first | (with_reducible first | exact HK.out | apply KeepBut.set_ | apply keep_drewN | apply keep_drew | apply keep_alloc | refine keep_far ?_ GW205.out _ | refine keep_far ?_ GW215.out _) | exact HK.out)⟩, ⟨by repeat (first | (with_reducible first | exact HB.out | apply below_alloc | apply pw_below_drewN | apply below_drew1 | refine below_set ?_ (IsS60.ge HI0.out) | refine below_set ?_ GE205.out | refine below_set ?_ GE215.out) | exact HB.out)⟩⟩
      subst c60
      have H1 : (spec_l01DrawRight.l0 kj15 (wrap64 (x5_1 + 1)) s0_0 t217 t218 t209 t206 (wrap64 (t206 + t212)) x216003_1 x216004_1) = some (r1, r2, r3, r4, r5, r6, r7) := by (first | (rw [if_pos rfl] at H; exact H) | rfl)
      clear H
      have H := H1
      clear H1
      have H' := Aside0.mk H
      clear H
      have hnb61 := NB215_205.out
      have hnc61 := NB205_215.out
      have hnb62 := NB215_0.out
      have hnc62 := NB0_215.out
      have hcz63_0 : wc.cell? ⟨gb215, 0, none⟩ = some (.int .i64 t209) := (blk_cell BK215.out 0).trans rfl
      have hcz63_1 : wc.cell? ⟨gb215, 1, none⟩ = some (.int .i64 t206) := (blk_cell BK215.out 1).trans rfl
      have hcz63_2 : wc.cell? ⟨gb215, 2, none⟩ = some (.int .i64 (wrap64 (t206 + t212))) := (blk_cell BK215.out 2).trans rfl
      have hcz63_3 : wc.cell? ⟨gb215, 3, none⟩ = some (u216003) := (blk_cell BK215.out 3).trans rfl
      have hcz63_4 : wc.cell? ⟨gb215, 4, none⟩ = some (u216004) := (blk_cell BK215.out 4).trans rfl
      have hfz63_0 := blk_frozen BK215.out 0
      have hfz63_1 := blk_frozen BK215.out 1
      have hfz63_2 := blk_frozen BK215.out 2
      have hfz63_3 := blk_frozen BK215.out 3
      have hfz63_4 := blk_frozen BK215.out 4
      go_wp2_with (first | ((with_reducible refine gate_callee (f := 40) rfl ?_); refine goesL_ (some 45) rfl rfl Try.func40 (by kernel_rfl) rfl #[.int .i64 t209, .int .i64 x5_1] rfl (by (try simp only [List.map_toArray, List.map_cons, List.map_nil]); first | done | rfl | (simp only [List.length_drop, List.length_take]; rfl)) ?_; (with_reducible refine (spec_l01Week.calls t209 x5_1 true _ A59.out).mono ?_); rintro e w' ⟨rfl, ⟨nd, rfl⟩⟩; refine ⟨_, rfl, ?_⟩))
      go_roundg kj15
      case measure => have := HK1.out; have := HJ15.out; omega
      case rel => exact ⟨(wrap64 (x5_1 + 1)), (t217), (t218), (x216003_1), (x216004_1), (u216003), (u216004), (by first | rfl | (simp; done) | (simp [*]; done)), H', ⟨by have := HK1.out; have := HJ15.out; omega⟩, ⟨by (with_reducible repeat (first | apply Kd.R_alloc | apply Kd.R_drewN | apply Kd.R_drew)); exact HO_216003.out⟩, ⟨by (with_reducible repeat (first | apply Kd.R_alloc | apply Kd.R_drewN | apply Kd.R_drew)); exact HO_216004.out⟩, ⟨by (with_reducible repeat (first | refine blk_drewN ?_ _ | refine blk_drew ?_ | refine blk_alloc ?_ _)); exact BK205.out⟩, ⟨by (with_reducible repeat (first | refine blk_drewN ?_ _ | refine blk_drew ?_ | refine blk_alloc ?_ _)); exact BK215.out⟩, ⟨by repeat (first | (with_reducible first | exact HI0.out | apply IsS60.alloc | apply IsS60.drewN | apply IsS60.drew | apply IsS60.set_1 | apply IsS60.set_2 | refine IsS60.far ?_ NB0_205.out _ | refine IsS60.far ?_ NB0_215.out _) | exact HI0.out)⟩, ⟨by repeat (first | (with_reducible first | exact HK.out | apply KeepBut.set_ | apply keep_drewN | apply keep_drew | apply keep_alloc | refine keep_far ?_ GW205.out _ | refine keep_far ?_ GW215.out _) | exact HK.out)⟩, ⟨by repeat (first | (with_reducible first | exact HB.out | apply below_alloc | apply pw_below_drewN | apply below_drew1 | refine below_set ?_ (IsS60.ge HI0.out) | refine below_set ?_ GE205.out | refine below_set ?_ GE215.out) | exact HB.out)⟩⟩
     subst c30
     have H1 : (if x216003_1.length < 17592186044416 then ((some (x216003_1 ++ [x5_1] : List Int)).bind fun y220 => ((spec_l01Week.f t209 x5_1).bind fun t223 => (if t223 = true then (spec_l01DrawRight.l0 kj15 (wrap64 (x5_1 + 1)) s0_0 t217 t218 t209 t206 (wrap64 (t206 + t212)) y220 x216004_1) else (if (x216004_1.length : Int) < 20 then (if x216004_1.length < 17592186044416 then (spec_l01DrawRight.l0 kj15 (wrap64 (x5_1 + 1)) s0_0 t217 t218 t209 t206 (wrap64 (t206 + t212)) y220 (x216004_1 ++ [x5_1])) else (none)) else (spec_l01DrawRight.l0 kj15 (wrap64 (x5_1 + 1)) s0_0 t217 t218 t209 t206 (wrap64 (t206 + t212)) y220 x216004_1))))) else (none)) = some (r1, r2, r3, r4, r5, r6, r7) := by (first | (rw [if_pos rfl] at H; exact H) | rfl)
     clear H
     have H := H1
     clear H1
     by_cases c31 : x216003_1.length < 17592186044416
     rotate_left
     ·rw [if_neg c31] at H
      exact absurd H (by simp)
     rw [if_pos c31] at H
     have LMc31 := Aside0.mk c31
     clear c31
     obtain ⟨y220, hy220⟩ : ∃ y_ : List Int, y_ = (x216003_1 ++ [x5_1]) := ⟨_, rfl⟩
     replace H : ((spec_l01Week.f t209 x5_1).bind fun t223 => (if t223 = true then (spec_l01DrawRight.l0 kj15 (wrap64 (x5_1 + 1)) s0_0 t217 t218 t209 t206 (wrap64 (t206 + t212)) y220 x216004_1) else (if (x216004_1.length : Int) < 20 then (if x216004_1.length < 17592186044416 then (spec_l01DrawRight.l0 kj15 (wrap64 (x5_1 + 1)) s0_0 t217 t218 t209 t206 (wrap64 (t206 + t212)) y220 (x216004_1 ++ [x5_1])) else (none)) else (spec_l01DrawRight.l0 kj15 (wrap64 (x5_1 + 1)) s0_0 t217 t218 t209 t206 (wrap64 (t206 + t212)) y220 x216004_1)))) = some (r1, r2, r3, r4, r5, r6, r7) := by first | (rw [hy220]; with_reducible exact H) | (have H2_ := (Option.bind_some _ _).symm.trans H; rw [hy220]; with_reducible exact H2_) | (have H2_ := (Option.bind_some _ _).symm.trans H; with_reducible exact H2_) | with_reducible exact H | (rw [hy220]; exact H) | exact H
     have Ny220 := Aside0.mk hy220
     clear hy220
     replace H := Option.bind_eq_some_iff.mp H
     obtain ⟨t223, A320, H⟩ := H
     try dsimp only at H
     have A32 := Aside0.mk A320
     clear A320
     by_cases c33 : t223 = true
     rotate_left
     ·replace c33 := Bool.eq_false_iff.mpr c33
      subst c33
      have H1 : (if (x216004_1.length : Int) < 20 then (if x216004_1.length < 17592186044416 then (spec_l01DrawRight.l0 kj15 (wrap64 (x5_1 + 1)) s0_0 t217 t218 t209 t206 (wrap64 (t206 + t212)) y220 (x216004_1 ++ [x5_1])) else (none)) else (spec_l01DrawRight.l0 kj15 (wrap64 (x5_1 + 1)) s0_0 t217 t218 t209 t206 (wrap64 (t206 + t212)) y220 x216004_1)) = some (r1, r2, r3, r4, r5, r6, r7) := by (first | (rw [if_neg (show ¬ (false = true) by decide)] at H; exact H) | rfl)
      clear H
      have H := H1
      clear H1
      by_cases c40 : (x216004_1.length : Int) < 20
      rotate_left
      ·rw [if_neg c40] at H
       have c40b0 : decide ((x216004_1.length : Int) < 20) = false := decide_eq_false c40
       have c40b1 : decide (x216004_1.length < 20) = false := decide_eq_false (by omega)
       clear c40
       have H' := Aside0.mk H
       clear H
       have hnb52 := NB215_205.out
       have hnc52 := NB205_215.out
       have hnb53 := NB215_0.out
       have hnc53 := NB0_215.out
       have hcz54_0 : wc.cell? ⟨gb215, 0, none⟩ = some (.int .i64 t209) := (blk_cell BK215.out 0).trans rfl
       have hcz54_1 : wc.cell? ⟨gb215, 1, none⟩ = some (.int .i64 t206) := (blk_cell BK215.out 1).trans rfl
       have hcz54_2 : wc.cell? ⟨gb215, 2, none⟩ = some (.int .i64 (wrap64 (t206 + t212))) := (blk_cell BK215.out 2).trans rfl
       have hcz54_3 : wc.cell? ⟨gb215, 3, none⟩ = some (u216003) := (blk_cell BK215.out 3).trans rfl
       have hcz54_4 : wc.cell? ⟨gb215, 4, none⟩ = some (u216004) := (blk_cell BK215.out 4).trans rfl
       have hfz54_0 := blk_frozen BK215.out 0
       have hfz54_1 := blk_frozen BK215.out 1
       have hfz54_2 := blk_frozen BK215.out 2
       have hfz54_3 := blk_frozen BK215.out 3
       have hfz54_4 := blk_frozen BK215.out 4
       go_wp2_with (first | ((with_reducible refine gate_builtin (b := .append) (xs := #[.tmp 37, .tmp 39]) rfl ?_); (try (refine gate_guard (by rfl) ?_; dsimp only)); at_builtin; refine Kd.R_append (Kd.int .i64) w.heap.size rfl (.tmp 37) (.tmp 39) 22 3 (.int .i64 0) 8 rfl Try.underlying22 info3 rfl (by decide) (by omega) u216003 x216003_1 x5_1 [.int .i64 x5_1] (fun k_ => some k_ ≠ (u216004 : Value).ownBlock) (fun _ => False) rfl rfl ?aP (fun _ hk => hk.elim) ?aF ?aO (Below.refl _ _) ?aS ?aL ?_; (case aP => exact rfl); (case aF => exact (fun k_ hk => Kd.fresh' (Kd.R_lt HO_216004.out) k_ hk)); (case aO => exact HO_216003.out); (case aS => exact (keep_size (w := w) (g := g) (row := none) HK.out)); (case aL => have := LMc31.out; omega); intro v221 w55 ho hb hg hat; rw [← Ny220.out] at ho; replace HO_216004 := Aside0.mk (Kd.R_after (ok := (fun _ => True)) (Kd.R_mono HO_216004.out (fun _ hk => ⟨trivial, hk⟩)) hg hat); replace BK205 := Aside0.mk (blk_grown (g := gb205) (o := .cells #[.int .i64 0, .int .i64 0, .int .i64 0, .slice none 0 0, .slice none 0 0] 27 (0, 0)) BK205.out hg (Kd.R_ne HO_216003.out BK205.out (by decide))); replace BK215 := Aside0.mk (blk_grown (g := gb215) (o := .cells #[.int .i64 t209, .int .i64 t206, .int .i64 (wrap64 (t206 + t212)), u216003, u216004] 27 (0, 0)) BK215.out hg (Kd.R_ne HO_216003.out BK215.out (by decide))); replace HI0 := Aside0.mk (IsS60.grown (by (first | (with_reducible exact IsS60.drewN (IsS60.far HI0.out NB0_205.out _) _) | (with_reducible exact IsS60.far HI0.out NB0_205.out _) | (with_reducible exact IsS60.drewN (IsS60.far HI0.out NB0_215.out _) _) | (with_reducible exact IsS60.far HI0.out NB0_215.out _) | skip); repeat (first | (with_reducible first | exact HI0.out | apply IsS60.alloc | apply IsS60.drewN | apply IsS60.drew | apply IsS60.set_1 | apply IsS60.set_2 | refine IsS60.far ?_ NB0_205.out _ | refine IsS60.far ?_ NB0_215.out _) | exact HI0.out)) hg (IsS60.own_ne HI0.out HO_216003.out (by decide))); replace HB := Aside0.mk (below_weaken HB.out HL.out hb); replace HK := Aside0.mk (KeepBut.trans HK.out (KeepBut.of_grown hg g) (Kd.R_base2 HO_216003.out)); have HO222 := Aside0.mk (ho); clear HO_216003; clear ho hb hg hat; obtain ⟨Ao56, co56, eo56⟩ := Kd.R_slice HO222.out; subst eo56; have hcz57_0 : w55.cell? ⟨gb215, 0, none⟩ = some (.int .i64 t209) := (blk_cell BK215.out 0).trans rfl; have hcz57_1 : w55.cell? ⟨gb215, 1, none⟩ = some (.int .i64 t206) := (blk_cell BK215.out 1).trans rfl; have hcz57_2 : w55.cell? ⟨gb215, 2, none⟩ = some (.int .i64 (wrap64 (t206 + t212))) := (blk_cell BK215.out 2).trans rfl; have hcz57_3 : w55.cell? ⟨gb215, 3, none⟩ = some (u216003) := (blk_cell BK215.out 3).trans rfl; have hcz57_4 : w55.cell? ⟨gb215, 4, none⟩ = some (u216004) := (blk_cell BK215.out 4).trans rfl; have hfz57_0 := blk_frozen BK215.out 0; have hfz57_1 := blk_frozen BK215.out 1; have hfz57_2 := blk_frozen BK215.out 2; have hfz57_3 := blk_frozen BK215.out 3; have hfz57_4 := blk_frozen BK215.out 4) | ((with_reducible refine gate_callee (f := 40) rfl ?_); refine goesL_ (some 45) rfl rfl Try.func40 (by kernel_rfl) rfl #[.int .i64 t209, .int .i64 x5_1] rfl (by (try simp only [List.map_toArray, List.map_cons, List.map_nil]); first | done | rfl | (simp only [List.length_drop, List.length_take]; rfl)) ?_; (with_reducible refine (spec_l01Week.calls t209 x5_1 false _ A32.out).mono ?_); rintro e w' ⟨rfl, ⟨nd, rfl⟩⟩; refine ⟨_, rfl, ?_⟩; obtain ⟨Ao58, co58, eo58⟩ := Kd.R_slice HO_216004.out; subst eo58))
       go_roundg kj15
       case measure => have := HK1.out; have := HJ15.out; omega
       case rel => exact ⟨(wrap64 (x5_1 + 1)), (t217), (t218), (y220), (x216004_1), (.slice Ao56 y220.length co56), (.slice Ao58 x216004_1.length co58), (by first | rfl | (simp; done) | (simp [*]; done)), H', ⟨by have := HK1.out; have := HJ15.out; omega⟩, ⟨by (with_reducible repeat (first | apply Kd.R_alloc | apply Kd.R_drewN | apply Kd.R_drew)); exact Kd.R_mono (Kd.R_far (p := ⟨gb215, 3, none⟩) (Kd.R_types HO222.out BK215.out (by decide)) (fun _ hk => hk.2) (.slice Ao56 y220.length co56)) (fun _ hk => hk.1)⟩, ⟨by (with_reducible repeat (first | apply Kd.R_alloc | apply Kd.R_drewN | apply Kd.R_drew)); exact Kd.R_mono (Kd.R_far (p := ⟨gb215, 3, none⟩) (Kd.R_types HO_216004.out BK215.out (by decide)) (fun _ hk => hk.2) (.slice Ao56 y220.length co56)) (fun _ hk => hk.1.2)⟩, ⟨by (with_reducible repeat (first | refine blk_drewN ?_ _ | refine blk_drew ?_ | refine blk_alloc ?_ _)); refine blk_far ?_ NB205_215.out _; (with_reducible repeat (first | refine blk_drewN ?_ _ | refine blk_drew ?_ | refine blk_alloc ?_ _)); exact BK205.out⟩, ⟨by (with_reducible repeat (first | refine blk_drewN ?_ _ | refine blk_drew ?_ | refine blk_alloc ?_ _)); refine blk_put (cs := #[.int .i64 t209, .int .i64 t206, .int .i64 (wrap64 (t206 + t212)), u216003, .slice Ao58 x216004_1.length co58]) ?_ 3 _ rfl; (with_reducible repeat (first | refine blk_drewN ?_ _ | refine blk_drew ?_ | refine blk_alloc ?_ _)); exact BK215.out⟩, ⟨by repeat (first | (with_reducible first | exact HI0.out | apply IsS60.alloc | apply IsS60.drewN | apply IsS60.drew | apply IsS60.set_1 | apply IsS60.set_2 | refine IsS60.far ?_ NB0_205.out _ | refine IsS60.far ?_ NB0_215.out _) | exact HI0.out)⟩, ⟨by repeat (first | (with_reducible first | exact HK.out | apply KeepBut.set_ | apply keep_drewN | apply keep_drew | apply keep_alloc | refine keep_far ?_ GW205.out _ | refine keep_far ?_ GW215.out _) | exact HK.out)⟩, ⟨by repeat (first | (with_reducible first | exact HB.out | apply below_alloc | apply pw_below_drewN | apply below_drew1 | refine below_set ?_ (IsS60.ge HI0.out) | refine below_set ?_ GE205.out | refine below_set ?_ GE215.out) | exact HB.out)⟩⟩
      rw [if_pos c40] at H
      have c40b0 : decide ((x216004_1.length : Int) < 20) = true := decide_eq_true c40
      have c40b1 : decide (x216004_1.length < 20) = true := decide_eq_true (by omega)
      clear c40
      by_cases c41 : x216004_1.length < 17592186044416
      rotate_left
      ·rw [if_neg c41] at H
       exact absurd H (by simp)
      rw [if_pos c41] at H
      have LMc41 := Aside0.mk c41
      clear c41
      obtain ⟨y224, hy224⟩ : ∃ y_ : List Int, y_ = (x216004_1 ++ [x5_1]) := ⟨_, rfl⟩
      replace H : (spec_l01DrawRight.l0 kj15 (wrap64 (x5_1 + 1)) s0_0 t217 t218 t209 t206 (wrap64 (t206 + t212)) y220 y224) = some (r1, r2, r3, r4, r5, r6, r7) := by first | (rw [hy224]; with_reducible exact H) | (have H2_ := (Option.bind_some _ _).symm.trans H; rw [hy224]; with_reducible exact H2_) | (have H2_ := (Option.bind_some _ _).symm.trans H; with_reducible exact H2_) | with_reducible exact H | (rw [hy224]; exact H) | exact H
      have Ny224 := Aside0.mk hy224
      clear hy224
      have H' := Aside0.mk H
      clear H
      have hnb42 := NB215_205.out
      have hnc42 := NB205_215.out
      have hnb43 := NB215_0.out
      have hnc43 := NB0_215.out
      have hcz44_0 : wc.cell? ⟨gb215, 0, none⟩ = some (.int .i64 t209) := (blk_cell BK215.out 0).trans rfl
      have hcz44_1 : wc.cell? ⟨gb215, 1, none⟩ = some (.int .i64 t206) := (blk_cell BK215.out 1).trans rfl
      have hcz44_2 : wc.cell? ⟨gb215, 2, none⟩ = some (.int .i64 (wrap64 (t206 + t212))) := (blk_cell BK215.out 2).trans rfl
      have hcz44_3 : wc.cell? ⟨gb215, 3, none⟩ = some (u216003) := (blk_cell BK215.out 3).trans rfl
      have hcz44_4 : wc.cell? ⟨gb215, 4, none⟩ = some (u216004) := (blk_cell BK215.out 4).trans rfl
      have hfz44_0 := blk_frozen BK215.out 0
      have hfz44_1 := blk_frozen BK215.out 1
      have hfz44_2 := blk_frozen BK215.out 2
      have hfz44_3 := blk_frozen BK215.out 3
      have hfz44_4 := blk_frozen BK215.out 4
      go_wp2_with (first | ((with_reducible refine gate_builtin (b := .append) (xs := #[.tmp 37, .tmp 39]) rfl ?_); (try (refine gate_guard (by rfl) ?_; dsimp only)); at_builtin; refine Kd.R_append (Kd.int .i64) w.heap.size rfl (.tmp 37) (.tmp 39) 22 3 (.int .i64 0) 8 rfl Try.underlying22 info3 rfl (by decide) (by omega) u216003 x216003_1 x5_1 [.int .i64 x5_1] (fun k_ => some k_ ≠ (u216004 : Value).ownBlock) (fun _ => False) rfl rfl ?aP (fun _ hk => hk.elim) ?aF ?aO (Below.refl _ _) ?aS ?aL ?_; (case aP => exact rfl); (case aF => exact (fun k_ hk => Kd.fresh' (Kd.R_lt HO_216004.out) k_ hk)); (case aO => exact HO_216003.out); (case aS => exact (keep_size (w := w) (g := g) (row := none) HK.out)); (case aL => have := LMc31.out; omega); intro v221 w45 ho hb hg hat; rw [← Ny220.out] at ho; replace HO_216004 := Aside0.mk (Kd.R_after (ok := (fun _ => True)) (Kd.R_mono HO_216004.out (fun _ hk => ⟨trivial, hk⟩)) hg hat); replace BK205 := Aside0.mk (blk_grown (g := gb205) (o := .cells #[.int .i64 0, .int .i64 0, .int .i64 0, .slice none 0 0, .slice none 0 0] 27 (0, 0)) BK205.out hg (Kd.R_ne HO_216003.out BK205.out (by decide))); replace BK215 := Aside0.mk (blk_grown (g := gb215) (o := .cells #[.int .i64 t209, .int .i64 t206, .int .i64 (wrap64 (t206 + t212)), u216003, u216004] 27 (0, 0)) BK215.out hg (Kd.R_ne HO_216003.out BK215.out (by decide))); replace HI0 := Aside0.mk (IsS60.grown (by (first | (with_reducible exact IsS60.drewN (IsS60.far HI0.out NB0_205.out _) _) | (with_reducible exact IsS60.far HI0.out NB0_205.out _) | (with_reducible exact IsS60.drewN (IsS60.far HI0.out NB0_215.out _) _) | (with_reducible exact IsS60.far HI0.out NB0_215.out _) | skip); repeat (first | (with_reducible first | exact HI0.out | apply IsS60.alloc | apply IsS60.drewN | apply IsS60.drew | apply IsS60.set_1 | apply IsS60.set_2 | refine IsS60.far ?_ NB0_205.out _ | refine IsS60.far ?_ NB0_215.out _) | exact HI0.out)) hg (IsS60.own_ne HI0.out HO_216003.out (by decide))); replace HB := Aside0.mk (below_weaken HB.out HL.out hb); replace HK := Aside0.mk (KeepBut.trans HK.out (KeepBut.of_grown hg g) (Kd.R_base2 HO_216003.out)); have HO222 := Aside0.mk (ho); clear HO_216003; clear ho hb hg hat; obtain ⟨Ao46, co46, eo46⟩ := Kd.R_slice HO222.out; subst eo46; have hcz47_0 : w45.cell? ⟨gb215, 0, none⟩ = some (.int .i64 t209) := (blk_cell BK215.out 0).trans rfl; have hcz47_1 : w45.cell? ⟨gb215, 1, none⟩ = some (.int .i64 t206) := (blk_cell BK215.out 1).trans rfl; have hcz47_2 : w45.cell? ⟨gb215, 2, none⟩ = some (.int .i64 (wrap64 (t206 + t212))) := (blk_cell BK215.out 2).trans rfl; have hcz47_3 : w45.cell? ⟨gb215, 3, none⟩ = some (u216003) := (blk_cell BK215.out 3).trans rfl; have hcz47_4 : w45.cell? ⟨gb215, 4, none⟩ = some (u216004) := (blk_cell BK215.out 4).trans rfl; have hfz47_0 := blk_frozen BK215.out 0; have hfz47_1 := blk_frozen BK215.out 1; have hfz47_2 := blk_frozen BK215.out 2; have hfz47_3 := blk_frozen BK215.out 3; have hfz47_4 := blk_frozen BK215.out 4) | ((with_reducible refine gate_callee (f := 40) rfl ?_); refine goesL_ (some 45) rfl rfl Try.func40 (by kernel_rfl) rfl #[.int .i64 t209, .int .i64 x5_1] rfl (by (try simp only [List.map_toArray, List.map_cons, List.map_nil]); first | done | rfl | (simp only [List.length_drop, List.length_take]; rfl)) ?_; (with_reducible refine (spec_l01Week.calls t209 x5_1 false _ A32.out).mono ?_); rintro e w' ⟨rfl, ⟨nd, rfl⟩⟩; refine ⟨_, rfl, ?_⟩; obtain ⟨Ao48, co48, eo48⟩ := Kd.R_slice HO_216004.out; subst eo48) | ((with_reducible refine gate_builtin (b := .append) (xs := #[.tmp 54, .tmp 56]) rfl ?_); (try (refine gate_guard (by rfl) ?_; dsimp only)); at_builtin; refine Kd.R_append (Kd.int .i64) w.heap.size rfl (.tmp 54) (.tmp 56) 22 3 (.int .i64 0) 8 rfl Try.underlying22 info3 rfl (by decide) (by omega) (.slice Ao48 x216004_1.length co48) x216004_1 x5_1 [.int .i64 x5_1] (fun k_ => Nbx8_ k_ Ao46 y220 co46) (fun _ => False) rfl (by first | (go_simp; done) | (go_simp; rfl)) ?aP (fun _ hk => hk.elim) ?aF ?aO (Below.refl _ _) ?aS ?aL ?_; (case aP => exact rfl); (case aF => exact (fun k_ hk => Kd.fresh' (Kd.R_lt (by (with_reducible repeat (first | apply Kd.R_alloc | apply Kd.R_drewN | apply Kd.R_drew)); exact (Kd.R_mono (Kd.R_far (p := ⟨gb215, 3, none⟩) (Kd.R_types HO222.out BK215.out (by decide)) (fun _ hk => hk.2) (.slice Ao46 y220.length co46)) (fun _ h_ => h_.1)))) k_ hk)); (case aO => exact (by (with_reducible repeat (first | apply Kd.R_alloc | apply Kd.R_drewN | apply Kd.R_drew)); exact Kd.R_mono (Kd.R_far (p := ⟨gb215, 3, none⟩) (Kd.R_types HO_216004.out BK215.out (by decide)) (fun _ hk => hk.2) (.slice Ao46 y220.length co46)) (fun _ hk => hk.1.2))); (case aS => exact (keep_size (w := w) (g := g) (row := none) (by repeat (first | (with_reducible first | exact HK.out | apply KeepBut.set_ | apply keep_drewN | apply keep_drew | apply keep_alloc | refine keep_far ?_ GW205.out _ | refine keep_far ?_ GW215.out _) | exact HK.out)))); (case aL => have := LMc41.out; omega); intro v225 w49 ho hb hg hat; rw [← Ny224.out] at ho; replace BK205 := Aside0.mk (blk_grown (g := gb205) (o := .cells #[.int .i64 0, .int .i64 0, .int .i64 0, .slice none 0 0, .slice none 0 0] 27 (0, 0)) (by (with_reducible repeat (first | refine blk_drewN ?_ _ | refine blk_drew ?_ | refine blk_alloc ?_ _)); refine blk_far ?_ NB205_215.out _; (with_reducible repeat (first | refine blk_drewN ?_ _ | refine blk_drew ?_ | refine blk_alloc ?_ _)); exact BK205.out) hg (Kd.R_ne HO_216004.out BK205.out (by decide))); replace HO222 := Aside0.mk (Kd.R_after (ok := (fun _ => True)) (by (with_reducible repeat (first | apply Kd.R_alloc | apply Kd.R_drewN | apply Kd.R_drew)); exact Kd.R_mono (Kd.R_far (p := ⟨gb215, 3, none⟩) (Kd.R_types HO222.out BK215.out (by decide)) (fun _ hk => hk.2) (.slice Ao46 y220.length co46)) (fun _ hk => ⟨trivial, hk.1⟩)) hg hat); replace BK215 := Aside0.mk (blk_grown (g := gb215) (o := .cells #[.int .i64 t209, .int .i64 t206, .int .i64 (wrap64 (t206 + t212)), .slice Ao46 y220.length co46, .slice Ao48 x216004_1.length co48] 27 (0, 0)) (by (with_reducible repeat (first | refine blk_drewN ?_ _ | refine blk_drew ?_ | refine blk_alloc ?_ _)); refine blk_put (cs := #[.int .i64 t209, .int .i64 t206, .int .i64 (wrap64 (t206 + t212)), u216003, .slice Ao48 x216004_1.length co48]) ?_ 3 _ rfl; (with_reducible repeat (first | refine blk_drewN ?_ _ | refine blk_drew ?_ | refine blk_alloc ?_ _)); exact BK215.out) hg (Kd.R_ne HO_216004.out BK215.out (by decide))); replace HB := Aside0.mk (below_weaken (by repeat (first | (with_reducible first | exact HB.out | apply below_alloc | apply pw_below_drewN | apply below_drew1 | refine below_set ?_ (IsS60.ge HI0.out) | refine below_set ?_ GE205.out | refine below_set ?_ GE215.out) | exact HB.out)) HL.out hb); replace HI0 := Aside0.mk (IsS60.grown (by (first | (with_reducible exact IsS60.drewN (IsS60.far HI0.out NB0_205.out _) _) | (with_reducible exact IsS60.far HI0.out NB0_205.out _) | (with_reducible exact IsS60.drewN (IsS60.far HI0.out NB0_215.out _) _) | (with_reducible exact IsS60.far HI0.out NB0_215.out _) | skip); repeat (first | (with_reducible first | exact HI0.out | apply IsS60.alloc | apply IsS60.drewN | apply IsS60.drew | apply IsS60.set_1 | apply IsS60.set_2 | refine IsS60.far ?_ NB0_205.out _ | refine IsS60.far ?_ NB0_215.out _) | exact HI0.out)) hg (IsS60.own_ne HI0.out HO_216004.out (by decide))); replace HK := Aside0.mk (KeepBut.trans (by repeat (first | (with_reducible first | exact HK.out | apply KeepBut.set_ | apply keep_drewN | apply keep_drew | apply keep_alloc | refine keep_far ?_ GW205.out _ | refine keep_far ?_ GW215.out _) | exact HK.out)) (KeepBut.of_grown hg g) (Kd.R_base2 HO_216004.out)); have HO226 := Aside0.mk (ho); clear HO_216004; clear ho hb hg hat; obtain ⟨Ao50, co50, eo50⟩ := Kd.R_slice HO226.out; subst eo50; have hcz51_0 : w49.cell? ⟨gb215, 0, none⟩ = some (.int .i64 t209) := (blk_cell BK215.out 0).trans rfl; have hcz51_1 : w49.cell? ⟨gb215, 1, none⟩ = some (.int .i64 t206) := (blk_cell BK215.out 1).trans rfl; have hcz51_2 : w49.cell? ⟨gb215, 2, none⟩ = some (.int .i64 (wrap64 (t206 + t212))) := (blk_cell BK215.out 2).trans rfl; have hcz51_3 : w49.cell? ⟨gb215, 3, none⟩ = some (.slice Ao46 y220.length co46) := (blk_cell BK215.out 3).trans rfl; have hcz51_4 : w49.cell? ⟨gb215, 4, none⟩ = some (.slice Ao48 x216004_1.length co48) := (blk_cell BK215.out 4).trans rfl; have hfz51_0 := blk_frozen BK215.out 0; have hfz51_1 := blk_frozen BK215.out 1; have hfz51_2 := blk_frozen BK215.out 2; have hfz51_3 := blk_frozen BK215.out 3; have hfz51_4 := blk_frozen BK215.out 4))
      go_roundg kj15
      case measure => have := HK1.out; have := HJ15.out; omega
      case rel => exact ⟨(wrap64 (x5_1 + 1)), (t217), (t218), (y220), (y224), (.slice Ao46 y220.length co46), (.slice Ao50 y224.length co50), (by first | rfl | (simp; done) | (simp [*]; done)), H', ⟨by have := HK1.out; have := HJ15.out; omega⟩, ⟨by (with_reducible repeat (first | apply Kd.R_alloc | apply Kd.R_drewN | apply Kd.R_drew)); exact Kd.R_mono (Kd.R_far (p := ⟨gb215, 4, none⟩) (Kd.R_types HO222.out BK215.out (by decide)) (fun _ hk => hk.2) (.slice Ao50 y224.length co50)) (fun _ hk => hk.1.2)⟩, ⟨by (with_reducible repeat (first | apply Kd.R_alloc | apply Kd.R_drewN | apply Kd.R_drew)); exact Kd.R_mono (Kd.R_far (p := ⟨gb215, 4, none⟩) (Kd.R_types HO226.out BK215.out (by decide)) (fun _ hk => hk.2) (.slice Ao50 y224.length co50)) (fun _ hk => hk.1)⟩, ⟨by (with_reducible repeat (first | refine blk_drewN ?_ _ | refine blk_drew ?_ | refine blk_alloc ?_ _)); refine blk_far ?_ NB205_215.out _; (with_reducible repeat (first | refine blk_drewN ?_ _ | refine blk_drew ?_ | refine blk_alloc ?_ _)); exact BK205.out⟩, ⟨by (with_reducible repeat (first | refine blk_drewN ?_ _ | refine blk_drew ?_ | refine blk_alloc ?_ _)); refine blk_put (cs := #[.int .i64 t209, .int .i64 t206, .int .i64 (wrap64 (t206 + t212)), .slice Ao46 y220.length co46, .slice Ao48 x216004_1.length co48]) ?_ 4 _ rfl; (with_reducible repeat (first | refine blk_drewN ?_ _ | refine blk_drew ?_ | refine blk_alloc ?_ _)); exact BK215.out⟩, ⟨by repeat (first | (with_reducible first | exact HI0.out | apply IsS60.alloc | apply IsS60.drewN | apply IsS60.drew | apply IsS60.set_1 | apply IsS60.set_2 | refine IsS60.far ?_ NB0_205.out _ | refine IsS60.far ?_ NB0_215.out _) | exact HI0.out)⟩, ⟨by repeat (first | (with_reducible first | exact HK.out | apply KeepBut.set_ | apply keep_drewN | apply keep_drew | apply keep_alloc | refine keep_far ?_ GW205.out _ | refine keep_far ?_ GW215.out _) | exact HK.out)⟩, ⟨by repeat (first | (with_reducible first | exact HB.out | apply below_alloc | apply pw_below_drewN | apply below_drew1 | refine below_set ?_ (IsS60.ge HI0.out) | refine below_set ?_ GE205.out | refine below_set ?_ GE215.out) | exact HB.out)⟩⟩
     subst c33
     have H1 : (spec_l01DrawRight.l0 kj15 (wrap64 (x5_1 + 1)) s0_0 t217 t218 t209 t206 (wrap64 (t206 + t212)) y220 x216004_1) = some (r1, r2, r3, r4, r5, r6, r7) := by (first | (rw [if_pos rfl] at H; exact H) | rfl)
     clear H
     have H := H1
     clear H1
     have H' := Aside0.mk H
     clear H
     have hnb34 := NB215_205.out
     have hnc34 := NB205_215.out
     have hnb35 := NB215_0.out
     have hnc35 := NB0_215.out
     have hcz36_0 : wc.cell? ⟨gb215, 0, none⟩ = some (.int .i64 t209) := (blk_cell BK215.out 0).trans rfl
     have hcz36_1 : wc.cell? ⟨gb215, 1, none⟩ = some (.int .i64 t206) := (blk_cell BK215.out 1).trans rfl
     have hcz36_2 : wc.cell? ⟨gb215, 2, none⟩ = some (.int .i64 (wrap64 (t206 + t212))) := (blk_cell BK215.out 2).trans rfl
     have hcz36_3 : wc.cell? ⟨gb215, 3, none⟩ = some (u216003) := (blk_cell BK215.out 3).trans rfl
     have hcz36_4 : wc.cell? ⟨gb215, 4, none⟩ = some (u216004) := (blk_cell BK215.out 4).trans rfl
     have hfz36_0 := blk_frozen BK215.out 0
     have hfz36_1 := blk_frozen BK215.out 1
     have hfz36_2 := blk_frozen BK215.out 2
     have hfz36_3 := blk_frozen BK215.out 3
     have hfz36_4 := blk_frozen BK215.out 4
     go_wp2_with (first | ((with_reducible refine gate_builtin (b := .append) (xs := #[.tmp 37, .tmp 39]) rfl ?_); (try (refine gate_guard (by rfl) ?_; dsimp only)); at_builtin; refine Kd.R_append (Kd.int .i64) w.heap.size rfl (.tmp 37) (.tmp 39) 22 3 (.int .i64 0) 8 rfl Try.underlying22 info3 rfl (by decide) (by omega) u216003 x216003_1 x5_1 [.int .i64 x5_1] (fun k_ => some k_ ≠ (u216004 : Value).ownBlock) (fun _ => False) rfl rfl ?aP (fun _ hk => hk.elim) ?aF ?aO (Below.refl _ _) ?aS ?aL ?_; (case aP => exact rfl); (case aF => exact (fun k_ hk => Kd.fresh' (Kd.R_lt HO_216004.out) k_ hk)); (case aO => exact HO_216003.out); (case aS => exact (keep_size (w := w) (g := g) (row := none) HK.out)); (case aL => have := LMc31.out; omega); intro v221 w37 ho hb hg hat; rw [← Ny220.out] at ho; replace HO_216004 := Aside0.mk (Kd.R_after (ok := (fun _ => True)) (Kd.R_mono HO_216004.out (fun _ hk => ⟨trivial, hk⟩)) hg hat); replace BK205 := Aside0.mk (blk_grown (g := gb205) (o := .cells #[.int .i64 0, .int .i64 0, .int .i64 0, .slice none 0 0, .slice none 0 0] 27 (0, 0)) BK205.out hg (Kd.R_ne HO_216003.out BK205.out (by decide))); replace BK215 := Aside0.mk (blk_grown (g := gb215) (o := .cells #[.int .i64 t209, .int .i64 t206, .int .i64 (wrap64 (t206 + t212)), u216003, u216004] 27 (0, 0)) BK215.out hg (Kd.R_ne HO_216003.out BK215.out (by decide))); replace HI0 := Aside0.mk (IsS60.grown (by (first | (with_reducible exact IsS60.drewN (IsS60.far HI0.out NB0_205.out _) _) | (with_reducible exact IsS60.far HI0.out NB0_205.out _) | (with_reducible exact IsS60.drewN (IsS60.far HI0.out NB0_215.out _) _) | (with_reducible exact IsS60.far HI0.out NB0_215.out _) | skip); repeat (first | (with_reducible first | exact HI0.out | apply IsS60.alloc | apply IsS60.drewN | apply IsS60.drew | apply IsS60.set_1 | apply IsS60.set_2 | refine IsS60.far ?_ NB0_205.out _ | refine IsS60.far ?_ NB0_215.out _) | exact HI0.out)) hg (IsS60.own_ne HI0.out HO_216003.out (by decide))); replace HB := Aside0.mk (below_weaken HB.out HL.out hb); replace HK := Aside0.mk (KeepBut.trans HK.out (KeepBut.of_grown hg g) (Kd.R_base2 HO_216003.out)); have HO222 := Aside0.mk (ho); clear HO_216003; clear ho hb hg hat; obtain ⟨Ao38, co38, eo38⟩ := Kd.R_slice HO222.out; subst eo38; have hcz39_0 : w37.cell? ⟨gb215, 0, none⟩ = some (.int .i64 t209) := (blk_cell BK215.out 0).trans rfl; have hcz39_1 : w37.cell? ⟨gb215, 1, none⟩ = some (.int .i64 t206) := (blk_cell BK215.out 1).trans rfl; have hcz39_2 : w37.cell? ⟨gb215, 2, none⟩ = some (.int .i64 (wrap64 (t206 + t212))) := (blk_cell BK215.out 2).trans rfl; have hcz39_3 : w37.cell? ⟨gb215, 3, none⟩ = some (u216003) := (blk_cell BK215.out 3).trans rfl; have hcz39_4 : w37.cell? ⟨gb215, 4, none⟩ = some (u216004) := (blk_cell BK215.out 4).trans rfl; have hfz39_0 := blk_frozen BK215.out 0; have hfz39_1 := blk_frozen BK215.out 1; have hfz39_2 := blk_frozen BK215.out 2; have hfz39_3 := blk_frozen BK215.out 3; have hfz39_4 := blk_frozen BK215.out 4) | ((with_reducible refine gate_callee (f := 40) rfl ?_); refine goesL_ (some 45) rfl rfl Try.func40 (by kernel_rfl) rfl #[.int .i64 t209, .int .i64 x5_1] rfl (by (try simp only [List.map_toArray, List.map_cons, List.map_nil]); first | done | rfl | (simp only [List.length_drop, List.length_take]; rfl)) ?_; (with_reducible refine (spec_l01Week.calls t209 x5_1 true _ A32.out).mono ?_); rintro e w' ⟨rfl, ⟨nd, rfl⟩⟩; refine ⟨_, rfl, ?_⟩))
     go_roundg kj15
     case measure => have := HK1.out; have := HJ15.out; omega
     case rel => exact ⟨(wrap64 (x5_1 + 1)), (t217), (t218), (y220), (x216004_1), (.slice Ao38 y220.length co38), (u216004), (by first | rfl | (simp; done) | (simp [*]; done)), H', ⟨by have := HK1.out; have := HJ15.out; omega⟩, ⟨by (with_reducible repeat (first | apply Kd.R_alloc | apply Kd.R_drewN | apply Kd.R_drew)); exact Kd.R_mono (Kd.R_far (p := ⟨gb215, 3, none⟩) (Kd.R_types HO222.out BK215.out (by decide)) (fun _ hk => hk.2) (.slice Ao38 y220.length co38)) (fun _ hk => hk.1)⟩, ⟨by (with_reducible repeat (first | apply Kd.R_alloc | apply Kd.R_drewN | apply Kd.R_drew)); exact Kd.R_mono (Kd.R_far (p := ⟨gb215, 3, none⟩) (Kd.R_types HO_216004.out BK215.out (by decide)) (fun _ hk => hk.2) (.slice Ao38 y220.length co38)) (fun _ hk => hk.1.2)⟩, ⟨by (with_reducible repeat (first | refine blk_drewN ?_ _ | refine blk_drew ?_ | refine blk_alloc ?_ _)); refine blk_far ?_ NB205_215.out _; (with_reducible repeat (first | refine blk_drewN ?_ _ | refine blk_drew ?_ | refine blk_alloc ?_ _)); exact BK205.out⟩, ⟨by (with_reducible repeat (first | refine blk_drewN ?_ _ | refine blk_drew ?_ | refine blk_alloc ?_ _)); refine blk_put (cs := #[.int .i64 t209, .int .i64 t206, .int .i64 (wrap64 (t206 + t212)), u216003, u216004]) ?_ 3 _ rfl; (with_reducible repeat (first | refine blk_drewN ?_ _ | refine blk_drew ?_ | refine blk_alloc ?_ _)); exact BK215.out⟩, ⟨by repeat (first | (with_reducible first | exact HI0.out | apply IsS60.alloc | apply IsS60.drewN | apply IsS60.drew | apply IsS60.set_1 | apply IsS60.set_2 | refine IsS60.far ?_ NB0_205.out _ | refine IsS60.far ?_ NB0_215.out _) | exact HI0.out)⟩, ⟨by repeat (first | (with_reducible first | exact HK.out | apply KeepBut.set_ | apply keep_drewN | apply keep_drew | apply keep_alloc | refine keep_far ?_ GW205.out _ | refine keep_far ?_ GW215.out _) | exact HK.out)⟩, ⟨by repeat (first | (with_reducible first | exact HB.out | apply below_alloc | apply pw_below_drewN | apply below_drew1 | refine below_set ?_ (IsS60.ge HI0.out) | refine below_set ?_ GE205.out | refine below_set ?_ GE215.out) | exact HB.out)⟩⟩
/-! ### spec_l01PickInt: function 56 -/
def spec_l01PickInt.f (s0_0 : List Int) (s0_1 : Int) (s0_2 : Int) (l1 : List Int) : Option (Int × Int × Int) := (spec_l01Below.f s0_0 s0_1 s0_2 (l1.length : Int)).bind fun bt231 => (if 0 ≤ bt231.1 then (if bt231.1 < (l1.length : Int) then (some (rd l1 bt231.1, bt231.2.1, bt231.2.2)) else (none)) else (none))
set_option maxHeartbeats 8000000 in
set_option maxRecDepth 100000 in
theorem spec_l01PickInt.calls (g : Nat) (s0_0 : List Int) (s0_1 : Int) (s0_2 : Int) (A1 : Option Addr) (c1 : Nat) (l1 : List Int) (r1 : Int) (r2 : Int) (r3 : Int) (w0 w : World) (hI : IsS60 w0 w g s0_0 s0_1 s0_2) (hB : Below w0.heap.size w0 w) (hr1 : Kd.C (Kd.int .i64) w A1 l1.length l1) (hc1 : l1.length ≤ c1) (hf1 : ∀ ad, A1 = some ad → 0 < l1.length → ad.block ≠ g) (h : spec_l01PickInt.f s0_0 s0_1 s0_2 l1 = some (r1, r2, r3)) :
  Calls Try.prog 56 #[.pointer (some ⟨g, 0, none⟩), .slice A1 l1.length c1] w fun e w' => e = .returned (.int .i64 r1) ∧ IsS60 w0 w' g s0_0 r2 r3 ∧ Below w0.heap.size w0 w' ∧ KeepBut w w' g none := by
 have HR1 := Aside0.mk hr1
 have HC1 := Aside0.mk hc1
 clear hr1 hc1
 have HI0 := Aside0.mk hI
 have HK := Aside0.mk (KeepBut.refl w g none)
 have HL := Aside0.mk hB.size
 clear hI
 have HW0 := Aside0.mk hB.size
 have HB := Aside0.mk hB
 clear hB
 have H : ((spec_l01Below.f s0_0 s0_1 s0_2 (l1.length : Int)).bind fun bt231 => (if 0 ≤ bt231.1 then (if bt231.1 < (l1.length : Int) then (some (rd l1 bt231.1, bt231.2.1, bt231.2.2)) else (none)) else (none))) = some (r1, r2, r3) := h
 clear h
 replace H := Option.bind_eq_some_iff.mp H
 obtain ⟨⟨t231, t232, t233⟩, A30, H⟩ := H
 replace H : (if 0 ≤ t231 then (if t231 < (l1.length : Int) then (some (rd l1 t231, t232, t233)) else (none)) else (none)) = some (r1, r2, r3) := H
 have A3 := Aside0.mk A30
 clear A30
 by_cases c4 : 0 ≤ t231
 rotate_left
 ·rw [if_neg c4] at H
  exact absurd H (by simp)

 rw [if_pos c4] at H
 have c4b0 : decide (0 ≤ t231) = true := decide_eq_true c4
 clear c4
 by_cases c5 : t231 < (l1.length : Int)
 rotate_left
 ·rw [if_neg c5] at H
  exact absurd H (by simp)
 rw [if_pos c5] at H
 have c5b0 : decide (t231 < (l1.length : Int)) = true := decide_eq_true c5
 clear c5
 simp only [Option.some.injEq, Prod.mk.injEq] at H
 obtain ⟨rfl, rfl, rfl⟩ := H
 go_enter Try.func56, Try.ntmps56
 go_wp2_with (first | ((with_reducible refine gate_callee (f := 55) rfl ?_); refine goesL_ (some 9) rfl rfl Try.func55 (by kernel_rfl) rfl #[.pointer (some ⟨g, 0, none⟩), .int .i64 (l1.length : Int)] rfl (by (try simp only [List.map_toArray, List.map_cons, List.map_nil]); first | done | rfl | (simp only [List.length_drop, List.length_take]; rfl)) ?_; (with_reducible refine (spec_l01Below.calls g s0_0 s0_1 s0_2 (l1.length : Int) t231 t232 t233 w0 _ ?side1 ?side2 A3.out).mono ?_); (case side1 => exact HI0.out); (case side2 => exact HB.out); rintro e w6 ⟨rfl, hi, hb, hk⟩; refine ⟨_, rfl, ?_⟩; replace HK := Aside0.mk (KeepBut.trans HK.out hk (.inl rfl)); replace HB := Aside0.mk (hb); replace HI0 := Aside0.mk (hi); (try clear hb); (try clear hb2); (try clear hk); (try clear hi); have p234 : 0 ≤ (t231 : Int) := of_decide_eq_true (by first | (with_reducible assumption) | assumption); have q234 : t231 < (l1.length : Int) := of_decide_eq_true (by first | (with_reducible assumption) | assumption); obtain ⟨ad234, e234, hx234_0⟩ := Kd.at_int HR1.out t231 p234 q234; cases e234; replace hx234_0 := keep_cell HK.out hx234_0 (by first | (rw [add_block]; exact hf1 _ rfl (by omega)) | exact hf1 _ rfl (by omega) | exact hf1 ad234 rfl (by omega)); replace p234 := eq_true p234; replace q234 := eq_true q234))
 go_ret
 exact ⟨by first | rfl | (simp [errW_none, errW_some] <;> rfl) | (simp [*, errW_none, errW_some] <;> rfl), by repeat (first | (with_reducible first | exact HI0.out | apply IsS60.alloc | apply IsS60.drewN | apply IsS60.drew | apply IsS60.set_1 | apply IsS60.set_2) | exact HI0.out), by repeat (first | (with_reducible first | exact HB.out | apply below_alloc | apply pw_below_drewN | apply below_drew1 | refine below_set ?_ (IsS60.ge HI0.out)) | exact HB.out), by repeat (first | (with_reducible first | exact HK.out | apply KeepBut.set_ | apply keep_drewN | apply keep_drew | apply keep_alloc) | exact HK.out)⟩
end Go.Proofs.Ytgjhlkjfdlkndaa.PFnBoth
