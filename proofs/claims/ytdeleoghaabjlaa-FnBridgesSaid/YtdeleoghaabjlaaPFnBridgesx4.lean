-- Written by a program of this session (wip/tools/fltprint.py: the kit's printer, taught more).
import Derived.Test.YtdeleoghaabjlaaPFnBridgesx0
import Derived.Test.YtdeleoghaabjlaaPFnBridgesx3
namespace Go.Proofs.Ytdeleoghaabjlaa.PFnBridges
open Go.RowKit Go.Proofs.YtdeleoghaabjlaaW.PrintWords Go.Proofs.YtdeleoghaabjlaaW.PrintLast Go.Proofs.YtdeleoghaabjlaaW.PrintMore
attribute [local go_sem] max2_int min2_int max_two min_two max_three min_three max_four min_four   -- for this text's walks alone
set_option linter.unusedVariables false
set_option linter.unusedSimpArgs false

/-! ### impl_Net_distances: function 47 -/
mutual
def impl_Net_distances.l0 : Nat → List (S63) → Bool → Int → List (S54) → Option ((List (S63)))
 | 0, _, _, _, _ => none
 | k + 1, x5, x6, x182000, x182001 => if x6 = true then (impl_Net_distances.l1 k x5 false x182001 (x182001.length : Int) 0 x182000 x182001) else (some x5)
def impl_Net_distances.l1 : Nat → List (S63) → Bool → List (S54) → Int → Int → Int → List (S54) → Option ((List (S63)))
 | 0, _, _, _, _, _, _, _ => none
 | k + 1, x5, x6, x22, x23, x24, x182000, x182001 => if x24 < x23 then (if 0 ≤ x24 then (if x24 < (x22.length : Int) then ((some (([(rd_T54 x22 x24).f0, (rd_T54 x22 x24).f1] : List Int) : List Int)).bind fun y188 => (impl_Net_distances.l2 k x5 x6 x22 x23 x24 y188 (y188.length : Int) 0 x182000 x182001 ((rd_T54 x22 x24).f0) ((rd_T54 x22 x24).f1) ((rd_T54 x22 x24).f2) ((rd_T54 x22 x24).f3))) else (none)) else (none)) else (impl_Net_distances.l0 k x5 x6 x182000 x182001)
def impl_Net_distances.l2 : Nat → List (S63) → Bool → List (S54) → Int → Int → List Int → Int → Int → Int → List (S54) → Int → Int → Int → Int → Option ((List (S63)))
 | 0, _, _, _, _, _, _, _, _, _, _, _, _, _, _ => none
 | k + 1, x5, x6, x22, x23, x24, x32, x33, x34, x182000, x182001, x188000, x188001, x188002, x188003 => if x34 < x33 then (if 0 ≤ x34 then (if x34 < (x32.length : Int) then ((impl_Edge_other.f x188000 x188001 x188002 x188003 (rd x32 x34)).bind fun bt192 => (if 0 ≤ (rd x32 x34) then (if (rd x32 x34) < (x5.length : Int) then (if (rd_T63 x5 (rd x32 x34)).f2 = true then (if 0 ≤ bt192.1 then (if bt192.1 < (x5.length : Int) then ((impl_reach_better.f ((rd_T63 x5 bt192.1).f0) ((rd_T63 x5 bt192.1).f1) ((rd_T63 x5 bt192.1).f2) (wrap64 (((rd_T63 x5 (rd x32 x34)).f0) + x188002)) (wrap64 (((rd_T63 x5 (rd x32 x34)).f1) + 1))).bind fun t198 => (if t198 = true then (impl_Net_distances.l2 k (x5.set (bt192.1 : Int).toNat (⟨wrap64 (((rd_T63 x5 (rd x32 x34)).f0) + x188002), wrap64 (((rd_T63 x5 (rd x32 x34)).f1) + 1), true⟩ : S63)) true x22 x23 x24 x32 x33 (wrap64 (x34 + 1)) x182000 x182001 x188000 x188001 x188002 x188003) else (impl_Net_distances.l2 k x5 x6 x22 x23 x24 x32 x33 (wrap64 (x34 + 1)) x182000 x182001 x188000 x188001 x188002 x188003))) else (none)) else (none)) else (impl_Net_distances.l2 k x5 x6 x22 x23 x24 x32 x33 (wrap64 (x34 + 1)) x182000 x182001 x188000 x188001 x188002 x188003)) else (none)) else (none))) else (none)) else (none)) else (impl_Net_distances.l1 k x5 x6 x22 x23 (wrap64 (x24 + 1)) x182000 x182001)
end
def impl_Net_distances.f (k : Nat) (a0_0 : Int) (l0_1 : List (S54)) (a1 : Int) : Option ((List (S63))) := if 0 ≤ a0_0 then (if (a0_0 : Int).toNat ≤ 11728124029610 then ((some (List.replicate (a0_0 : Int).toNat z63 : List (S63))).bind fun y182 => (if 0 ≤ a1 then (if a1 < (y182.length : Int) then (impl_Net_distances.l0 k (y182.set (a1 : Int).toNat (⟨(rd_T63 y182 a1).f0, (rd_T63 y182 a1).f1, true⟩ : S63)) true a0_0 l0_1) else (none)) else (none))) else (none)) else (none)
theorem impl_Net_distances.mono_l : ∀ k, (∀ y0 y1 y2 y3, LeO (impl_Net_distances.l0 k y0 y1 y2 y3) (impl_Net_distances.l0 (k + 1) y0 y1 y2 y3)) ∧ (∀ y0 y1 y2 y3 y4 y5 y6, LeO (impl_Net_distances.l1 k y0 y1 y2 y3 y4 y5 y6) (impl_Net_distances.l1 (k + 1) y0 y1 y2 y3 y4 y5 y6)) ∧ (∀ y0 y1 y2 y3 y4 y5 y6 y7 y8 y9 y10 y11 y12 y13, LeO (impl_Net_distances.l2 k y0 y1 y2 y3 y4 y5 y6 y7 y8 y9 y10 y11 y12 y13) (impl_Net_distances.l2 (k + 1) y0 y1 y2 y3 y4 y5 y6 y7 y8 y9 y10 y11 y12 y13))
 | 0 => ⟨fun _ _ _ _ r h => by simp [impl_Net_distances.l0] at h, fun _ _ _ _ _ _ _ r h => by simp [impl_Net_distances.l1] at h, fun _ _ _ _ _ _ _ _ _ _ _ _ _ _ r h => by simp [impl_Net_distances.l2] at h⟩
 | k + 1 => by
  obtain ⟨ih0, ih1, ih2⟩ := impl_Net_distances.mono_l k
  refine ⟨?_, ?_, ?_⟩
  ·intro y0 y1 y2 y3
   unfold impl_Net_distances.l0
   repeat' first
   | (with_reducible exact ih0 _ _ _ _)
   | (with_reducible exact ih1 _ _ _ _ _ _ _)
   | (with_reducible exact ih2 _ _ _ _ _ _ _ _ _ _ _ _ _ _)
   | (with_reducible exact LeO.refl _)
   | (with_reducible exact LeO.none _)
   | (with_reducible refine LeO.ite ?_ ?_)
   | (with_reducible refine LeO.bind ?_ (fun _ => ?_))
   | exact ih0 _ _ _ _
   | exact ih1 _ _ _ _ _ _ _
   | exact ih2 _ _ _ _ _ _ _ _ _ _ _ _ _ _
   | exact LeO.none _
   | refine LeO.ite ?_ ?_
   | refine LeO.bind ?_ (fun _ => ?_)
  ·intro y0 y1 y2 y3 y4 y5 y6
   unfold impl_Net_distances.l1
   repeat' first
   | (with_reducible exact ih0 _ _ _ _)
   | (with_reducible exact ih1 _ _ _ _ _ _ _)
   | (with_reducible exact ih2 _ _ _ _ _ _ _ _ _ _ _ _ _ _)
   | (with_reducible exact LeO.refl _)
   | (with_reducible exact LeO.none _)
   | (with_reducible refine LeO.ite ?_ ?_)
   | (with_reducible refine LeO.bind ?_ (fun _ => ?_))
   | exact ih0 _ _ _ _
   | exact ih1 _ _ _ _ _ _ _
   | exact ih2 _ _ _ _ _ _ _ _ _ _ _ _ _ _
   | exact LeO.none _
   | refine LeO.ite ?_ ?_
   | refine LeO.bind ?_ (fun _ => ?_)
  ·intro y0 y1 y2 y3 y4 y5 y6 y7 y8 y9 y10 y11 y12 y13
   unfold impl_Net_distances.l2
   repeat' first
   | (with_reducible exact ih0 _ _ _ _)
   | (with_reducible exact ih1 _ _ _ _ _ _ _)
   | (with_reducible exact ih2 _ _ _ _ _ _ _ _ _ _ _ _ _ _)
   | (with_reducible exact LeO.refl _)
   | (with_reducible exact LeO.none _)
   | (with_reducible refine LeO.ite ?_ ?_)
   | (with_reducible refine LeO.bind ?_ (fun _ => ?_))
   | exact ih0 _ _ _ _
   | exact ih1 _ _ _ _ _ _ _
   | exact ih2 _ _ _ _ _ _ _ _ _ _ _ _ _ _
   | exact LeO.none _
   | refine LeO.ite ?_ ?_
   | refine LeO.bind ?_ (fun _ => ?_)
theorem impl_Net_distances.mono : ∀ a0 a1 a2 k, LeO (impl_Net_distances.f k a0 a1 a2) (impl_Net_distances.f (k + 1) a0 a1 a2) := by
 intro a0 a1 a2 k
 obtain ⟨ih0, ih1, ih2⟩ := impl_Net_distances.mono_l k
 unfold impl_Net_distances.f
 repeat' first
   | (with_reducible exact ih0 _ _ _ _)
   | (with_reducible exact ih1 _ _ _ _ _ _ _)
   | (with_reducible exact ih2 _ _ _ _ _ _ _ _ _ _ _ _ _ _)
   | (with_reducible exact LeO.refl _)
   | (with_reducible exact LeO.none _)
   | (with_reducible refine LeO.ite ?_ ?_)
   | (with_reducible refine LeO.bind ?_ (fun _ => ?_))
   | exact ih0 _ _ _ _
   | exact ih1 _ _ _ _ _ _ _
   | exact ih2 _ _ _ _ _ _ _ _ _ _ _ _ _ _
   | exact LeO.none _
   | refine LeO.ite ?_ ?_
   | refine LeO.bind ?_ (fun _ => ?_)
def impl_Net_distances.T13 : Bool × List (List Nat × List Nat) := (true, [([], []), ([], []), ([0, 1], [0, 1]), ([2], [2]), ([3], [3]), ([4], [4]), ([5], [5]), ([5], [5]), ([6, 7, 5], [5, 6, 7]), ([8, 5], [5, 8]), ([5], [5]), ([5], [5]), ([10, 11, 5], [5, 10, 11]), ([12, 5], [5, 12]), ([13, 5], [5, 13]), ([5], [5]), ([15, 5], [5, 15]), ([14, 16, 5], [5, 14, 16]), ([5], [5]), ([5], [5]), ([18, 19, 5], [5, 18, 19]), ([20, 5], [5, 20]), ([21, 5], [5, 21]), ([22, 5], [5, 22]), ([9, 17, 23, 5, 5], [5, 9, 17, 23]), ([5, 24], [5, 24])])
def impl_Net_distances.B13 : List Nat := [0, 0, 3, 7, 15, 31, 63, 63, 255, 511, 63, 63, 3135, 7231, 15423, 63, 32831, 130111, 63, 63, 786495, 1835071, 3932223, 8126527, 16777215, 33554431]
theorem impl_Net_distances.tab13 : rtab .any (opsOf Try.f47 13) = impl_Net_distances.T13 := by kernel_rfl
theorem impl_Net_distances.bits13 : waitsOk impl_Net_distances.T13.2 impl_Net_distances.B13 = true := by kernel_rfl
def impl_Net_distances.T14 : Bool × List (List Nat × List Nat) := (true, [([], []), ([], []), ([], []), ([], []), ([2, 3], [2, 3]), ([4], [4]), ([5], [5]), ([], []), ([7], [7]), ([6, 8], [6, 8]), ([], []), ([], []), ([10, 11], [10, 11]), ([12], [12]), ([13], [13]), ([14], [14]), ([9, 15], [9, 15]), ([0, 1, 0, 1, 2, 3, 4, 5, 6, 7, 8, 9, 10, 11, 12, 13, 14, 15, 16], [0, 1]), ([17, 16, 0, 1, 2, 3, 4, 5, 6, 7, 8, 9, 10, 11, 12, 13, 14, 15, 16], [16, 17])])
def impl_Net_distances.B14 : List Nat := [0, 0, 0, 0, 12, 28, 60, 0, 128, 508, 0, 0, 3072, 7168, 15360, 31744, 65532, 131071, 262143]
theorem impl_Net_distances.tab14 : rtab .any (opsOf Try.f47 14) = impl_Net_distances.T14 := by kernel_rfl
theorem impl_Net_distances.bits14 : waitsOk impl_Net_distances.T14.2 impl_Net_distances.B14 = true := by kernel_rfl
set_option maxHeartbeats 8000000 in
set_option maxRecDepth 100000 in
theorem impl_Net_distances.calls (k : Nat) (a0_0 : Int) (A0_1 : Option Addr) (c0_1 : Nat) (l0_1 : List (S54)) (a1 : Int) (r : List (S63)) (w : World) (hr0_1 : Kd.C k54 w A0_1 l0_1.length l0_1) (hc0_1 : l0_1.length ≤ c0_1) (h : impl_Net_distances.f k a0_0 l0_1 a1 = some r) :
  Calls Try.prog 47 #[.agg #[.int .i64 a0_0, .slice A0_1 l0_1.length c0_1], .int .i64 a1] w fun e w' => ∃ v0_ : Value, e = .returned (v0_) ∧ Kd.R k63 63 w' w.heap.size (fun _ => True) v0_ r ∧ Below w.heap.size w w' := by
 have hu26 := Try.underlying26
 have hu54 := Try.underlying54
 have hu63 := Try.underlying63
 have HR0_1 := Aside0.mk hr0_1
 have HC0_1 := Aside0.mk hc0_1
 clear hr0_1 hc0_1
 have HB := Aside0.mk (Below.refl w.heap.size w)
 have H : (if 0 ≤ a0_0 then (if (a0_0 : Int).toNat ≤ 11728124029610 then ((some (List.replicate (a0_0 : Int).toNat z63 : List (S63))).bind fun y182 => (if 0 ≤ a1 then (if a1 < (y182.length : Int) then (impl_Net_distances.l0 k (y182.set (a1 : Int).toNat (⟨(rd_T63 y182 a1).f0, (rd_T63 y182 a1).f1, true⟩ : S63)) true a0_0 l0_1) else (none)) else (none))) else (none)) else (none)) = some r := h
 clear h
 by_cases c3 : 0 ≤ a0_0
 rotate_left
 ·rw [if_neg c3] at H
  exact absurd H (by simp)

 rw [if_pos c3] at H
 have c3b0 := eq_true c3
 have c3b1 : decide (0 ≤ a0_0) = true := decide_eq_true c3
 clear c3
 by_cases c4 : (a0_0 : Int).toNat ≤ 11728124029610
 rotate_left
 ·rw [if_neg c4] at H
  exact absurd H (by simp)
 rw [if_pos c4] at H
 have c4b0 := eq_true c4
 have c4b1 : decide ((a0_0 : Int).toNat ≤ 11728124029610) = true := decide_eq_true c4
 clear c4
 obtain ⟨y182, hy182⟩ : ∃ y_ : List (S63), y_ = (List.replicate (a0_0 : Int).toNat z63) := ⟨_, rfl⟩
 replace H : (if 0 ≤ a1 then (if a1 < (y182.length : Int) then (impl_Net_distances.l0 k (y182.set (a1 : Int).toNat (⟨(rd_T63 y182 a1).f0, (rd_T63 y182 a1).f1, true⟩ : S63)) true a0_0 l0_1) else (none)) else (none)) = some r := by first | (rw [hy182]; with_reducible exact H) | (have H2_ := (Option.bind_some _ _).symm.trans H; rw [hy182]; with_reducible exact H2_) | (have H2_ := (Option.bind_some _ _).symm.trans H; with_reducible exact H2_) | with_reducible exact H | (rw [hy182]; exact H) | exact H
 have Ny182 := Aside0.mk hy182
 clear hy182
 by_cases c5 : 0 ≤ a1
 rotate_left
 ·rw [if_neg c5] at H
  exact absurd H (by simp)
 rw [if_pos c5] at H
 have c5b0 : decide (0 ≤ a1) = true := decide_eq_true c5
 clear c5
 by_cases c6 : a1 < (y182.length : Int)
 rotate_left
 ·rw [if_neg c6] at H
  exact absurd H (by simp)
 rw [if_pos c6] at H
 have c6b0 : decide (a1 < (y182.length : Int)) = true := decide_eq_true c6
 clear c6
 obtain ⟨y185, hy185⟩ : ∃ y_ : List (S63), y_ = (y182.set (a1 : Int).toNat (⟨(rd_T63 y182 a1).f0, (rd_T63 y182 a1).f1, true⟩ : S63)) := ⟨_, rfl⟩
 replace H : (impl_Net_distances.l0 k y185 true a0_0 l0_1) = some r := by first | (rw [hy185]; with_reducible exact H) | (have H2_ := (Option.bind_some _ _).symm.trans H; rw [hy185]; with_reducible exact H2_) | (have H2_ := (Option.bind_some _ _).symm.trans H; with_reducible exact H2_) | with_reducible exact H | (rw [hy185]; exact H) | exact H
 have Ny185 := Aside0.mk hy185
 clear hy185
 have H' := Aside0.mk H
 clear H
 go_enter Try.func47, Try.ntmps47
 go_wp2_with (first | ((with_reducible refine gate_dst (N := 2) rfl ?_); refine box_event ?hg (N := 2) ?hd (cs := #[.int .i64 a0_0, .slice A0_1 l0_1.length c0_1]) (t := 26) ?hr ?_; (case hd => rfl); (case hg => rfl); (case hr => first | (go_simp; done) | (go_simp; rfl)); intro gb181 hg w8 hbox hb; have n0_ := Aside0.mk (below_step HB.out hb); have n1_ := Aside0.mk (hbox); have n2_ := Aside0.mk ((by rw [hg]; exact (below_size HB.out) : w.heap.size ≤ gb181)); have n3_ := Aside0.mk ((by rw [hg]; exact (below_size HB.out) : w.heap.size ≤ gb181)); clear HB; have HB := n0_; have BK181 := n1_; have GW181 := n2_; have GE181 := n3_; clear n0_ n1_ n2_ n3_; clear hb hbox hg; have hcz9_0 : w8.cell? ⟨gb181, 0, none⟩ = some (.int .i64 a0_0) := (blk_cell BK181.out 0).trans rfl; have hcz9_1 : w8.cell? ⟨gb181, 1, none⟩ = some (.slice A0_1 l0_1.length c0_1) := (blk_cell BK181.out 1).trans rfl; have hfz9_0 := blk_frozen BK181.out 0; have hfz9_1 := blk_frozen BK181.out 1) | ((with_reducible refine gate_dst (N := 15) rfl ?_); refine Kd.R_make k63 _ 63 rfl (N := 15) rfl 60 _ _ rfl a0_0 rfl rfl Try.underlying60 (.agg #[(.int .i64 0), (.int .i64 0), (.bool false)]) 24 info63 rfl (by decide) (by omega) z63 (ok := fun _ => True) (okp := fun _ => True) (k63_mkM _ _ _ z63 ) (fun _ hk => hk) trivial (of_decide_eq_true (by first | (with_reducible assumption) | assumption)) (Nat.le_trans (Nat.mul_le_mul_right _ (of_decide_eq_true (by first | (with_reducible assumption) | assumption) : a0_0.toNat ≤ 11728124029610)) (by omega)) (Below.refl _ _) (Nat.le_refl _) ?_; intro v183 w10 ho11 hb hg_ hnew_; clear hg_ hnew_; (first | rw [← Ny182.out] at ho11 | (simp only [Int.reduceToNat] at ho11; rw [← Ny182.out] at ho11)); have n0_ := Aside0.mk (Kd.R_lower ho11 (below_size HB.out)); have n1_ := Aside0.mk (blk_below BK181.out hb); have n2_ := Aside0.mk (below_step HB.out hb); clear BK181; clear HB; have HO184 := n0_; have BK181 := n1_; have HB := n2_; clear n0_ n1_ n2_; clear hb ho11; have p7 : 0 ≤ (a1 : Int) := of_decide_eq_true (by first | (with_reducible assumption) | assumption); have q7 : (a1 : Int) < ((y182.length : Int) : Int) := of_decide_eq_true (by first | (with_reducible assumption) | assumption); obtain ⟨go7, co7, eo7, gb7, gl7, cl7, HG7⟩ := Kd.R_form HO184.out (by omega); (first | cases eo7 | (injection eo7 with ea_ en_ ec_; (first | subst ea_ | (injection ea_ with ea_; subst ea_)); subst ec_; clear en_)); have GB7 := Aside0.mk gb7; have GG7 := Aside0.mk HG7; clear gb7 gl7 HG7; obtain ⟨ce7, hcl7, hM7, hcc7, hfr7⟩ := Kd.R_elem HO184.out z63 (a1 : Int) p7 q7; obtain rfl := k63_openM hM7; have hx7_0 : w10.cell? ⟨go7, (a1 : Int).toNat * 3, none⟩ = some (.int .i64 ((rd_T63 y182 a1).f0)) := hcc7 0 _ rfl; have hx7_1 : w10.cell? ⟨go7, (a1 : Int).toNat * 3 + 1, none⟩ = some (.int .i64 ((rd_T63 y182 a1).f1)) := hcc7 1 _ rfl; have hx7_2 : w10.cell? ⟨go7, (a1 : Int).toNat * 3 + 2, none⟩ = some (.bool ((rd_T63 y182 a1).f2)) := hcc7 2 _ rfl; have hf7_0 : w10.frozen? ⟨go7, (a1 : Int).toNat * 3, none⟩ = false := hfr7 0; have hf7_1 : w10.frozen? ⟨go7, (a1 : Int).toNat * 3 + 1, none⟩ = false := hfr7 1; have hf7_2 : w10.frozen? ⟨go7, (a1 : Int).toNat * 3 + 2, none⟩ = false := hfr7 2; clear hcl7 hcc7 hfr7 hM7; replace p7 := eq_true p7; replace q7 := eq_true q7; have HX12 := Aside0.mk (show Kd.R k63 63 w10 w.heap.size (fun _ => True) (.slice (some ⟨go7, 0, none⟩) y182.length co7) y182 from HO184.out); obtain ⟨ce12, hcl12, hM12, hcc12, hfr12⟩ := Kd.R_elem HX12.out z63 (a1 : Int) (of_decide_eq_true (by first | (with_reducible assumption) | assumption)) (by have h_ : (a1 : Int) < ((y182.length : Int) : Int) := of_decide_eq_true (by first | (with_reducible assumption) | assumption); first | exact h_ | (have e_ := (Kd.R_reads' HO184.out).1; omega) | simpa using h_); obtain rfl := k63_openM hM12; have HP12 := Kd.R_seg HX12.out (a1 : Int) (of_decide_eq_true (by first | (with_reducible assumption) | assumption)) (by have h_ : (a1 : Int) < ((y182.length : Int) : Int) := of_decide_eq_true (by first | (with_reducible assumption) | assumption); first | exact h_ | (have e_ := (Kd.R_reads' HO184.out).1; omega) | simpa using h_) (seg := [.bool true]) (j := 2) hcl12 hcc12 (show 3 ≤ 3 from by decide) (x' := (⟨(rd_T63 y182 a1).f0, (rd_T63 y182 a1).f1, true⟩ : S63)) (k63_mkM _ _ _ (⟨(rd_T63 y182 a1).f0, (rd_T63 y182 a1).f1, true⟩ : S63) ) (fun _ hk => hk); have hx12_2 := hcc12 2 _ rfl; (try simp only [show (k63).sz = 3 from rfl, Nat.mul_one, Nat.add_zero] at hx12_2); have hf12_2 := hfr12 2; (try simp only [show (k63).sz = 3 from rfl, Nat.mul_one, Nat.add_zero] at hf12_2); clear hcl12 hcc12 hfr12 hM12) | ((with_reducible refine gate_store (t := 4) (p := 19) rfl ?_); refine store_event (t := 4) (p := 19) (v := ?vo_w13) (w1 := (w10.setCell ⟨go7, (a1 : Int).toNat * 3 + 2, none⟩ (.bool true))) ?hg ?ho ?hn ?hr ?_; (case ho => rfl); (case hg => rfl); (case hn => rfl); (case hr => first | (go_simp; done) | (go_simp; rfl)); intro w13 hw; have hg : w10.grownBy w13 (some go7) := (by rw [hw]; exact HP12.2); have hp_ : Kd.R k63 63 w13 w.heap.size (fun _ => True) (.slice (some ⟨go7, 0, none⟩) y182.length co7) y185 := (by rw [hw, Ny185.out]; exact HP12.1); clear HP12; have n0_ := Aside0.mk (blk_grown (g := gb181) (o := .cells #[.int .i64 a0_0, .slice A0_1 l0_1.length c0_1] 26 (0, 0)) BK181.out hg (Kd.R_ne HO184.out BK181.out (by decide))); have n1_ := Aside0.mk (hp_); have n2_ := Aside0.mk ((by rw [hw]; exact below_set (HB.out) GB7.out : Below w.heap.size w w13)); clear BK181; clear HO184; clear HB; have BK181 := n0_; have HO184 := n1_; have HB := n2_; clear n0_ n1_ n2_; clear hg hw hp_))
 go_loopg [6] k (fun kq v6 w' => ∃ (x5_1 : List (S63)) (x6_1 : Bool), v6 = .bool x6_1 ∧ Aside0 (impl_Net_distances.l0 kq x5_1 x6_1 a0_0 l0_1 = some r) ∧ Aside0 (kq ≤ k) ∧ Aside0 (Kd.R k63 63 w' w.heap.size (fun _ => True) (.slice (some ⟨go7, 0, none⟩) y182.length co7) x5_1) ∧ Aside0 (w'.heap[gb181]? = some (.cells #[.int .i64 a0_0, (.slice A0_1 l0_1.length c0_1)] 26 (0, 0))) ∧ Aside0 (Below w.heap.size w w'))
 case atStart => exact ⟨(y185), (true), (by first | rfl | (simp; done) | (simp [*]; done)), H', ⟨Nat.le_refl _⟩, ⟨by (with_reducible repeat (first | apply Kd.R_alloc | apply Kd.R_drewN | apply Kd.R_drew)); exact HO184.out⟩, ⟨by (with_reducible repeat (first | refine blk_drewN ?_ _ | refine blk_drew ?_ | refine blk_alloc ?_ _)); exact BK181.out⟩, ⟨by repeat (first | (with_reducible first | exact HB.out | apply below_alloc | apply pw_below_drewN | apply below_drew1 | refine below_set ?_ GE181.out) | exact HB.out)⟩⟩
 case round =>
  clear H'
  try clear c1
  try clear hx1
  try clear p2
  try clear c3
  try clear c3b0
  try clear c3b1
  try clear c4
  try clear c4b0
  try clear c4b1
  try clear c5
  try clear c5b0
  try clear c6
  try clear c6b0
  try clear c7
  try clear p7
  try clear q7
  try clear hx7
  try clear hf7
  try clear c12
  try clear hx12
  try clear hf12
  try clear hcz9_0
  try clear hcz9_1
  try clear hfz9_0
  try clear hfz9_1
  try clear hx12_2
  try clear hx7_0
  try clear hx7_1
  try clear hx7_2
  try clear p7
  try clear q7
  obtain ⟨x5_1, x6_1, rfl, HA, HK1, HO_5, BK181, HB⟩ := hrel
  have hl5_1 := (Kd.R_reads' HO_5.out).1
  rw [hl5_1] at HO_5
  (try simp only [hl5_1])
  (try simp only [hl5_1] at BK181)
  cases gk with
  | zero => exact absurd HA.out (by simp [impl_Net_distances.l0])
  | succ k1 =>
   have H := HA.out
   clear HA
   simp only [impl_Net_distances.l0] at H
   by_cases c14 : x6_1 = true
   rotate_left
   ·replace c14 := Bool.eq_false_iff.mpr c14
    subst c14
    have H1 : (some x5_1) = some r := by (first | (rw [if_neg (show ¬ (false = true) by decide)] at H; exact H) | rfl)
    clear H
    have H := H1
    clear H1
    obtain rfl := Option.some.inj H
    go_wp2
    go_ret
    exact ⟨_, by first | rfl | (simp [errW_none, errW_some] <;> rfl) | (simp [*, errW_none, errW_some] <;> rfl), by (with_reducible repeat (first | apply Kd.R_alloc | apply Kd.R_drewN | apply Kd.R_drew)); exact HO_5.out, by repeat (first | (with_reducible first | exact HB.out | apply below_alloc | apply pw_below_drewN | apply below_drew1 | refine below_set ?_ GE181.out) | exact HB.out)⟩
   subst c14
   have H1 : (impl_Net_distances.l1 k1 x5_1 false l0_1 (l0_1.length : Int) 0 a0_0 l0_1) = some r := by (first | (rw [if_pos rfl] at H; exact H) | rfl)
   clear H
   have H := H1
   clear H1
   have H' := Aside0.mk H
   clear H
   have hcz15_0 : wr.cell? ⟨gb181, 0, none⟩ = some (.int .i64 a0_0) := (blk_cell BK181.out 0).trans rfl
   have hcz15_1 : wr.cell? ⟨gb181, 1, none⟩ = some (.slice A0_1 l0_1.length c0_1) := (blk_cell BK181.out 1).trans rfl
   have hfz15_0 := blk_frozen BK181.out 0
   have hfz15_1 := blk_frozen BK181.out 1
   go_wp2
   go_loopg [6, 24] k1 (fun kq v6 v24 w' => ∃ (x5_2 : List (S63)) (x6_2 : Bool) (x24_2 : Int), v6 = .bool x6_2 ∧ v24 = .int .i64 x24_2 ∧ Aside0 (impl_Net_distances.l1 kq x5_2 x6_2 l0_1 (l0_1.length : Int) x24_2 a0_0 l0_1 = some r) ∧ Aside0 (kq ≤ k1) ∧ Aside0 (Kd.R k63 63 w' w.heap.size (fun _ => True) (.slice (some ⟨go7, 0, none⟩) x5_1.length co7) x5_2) ∧ Aside0 (w'.heap[gb181]? = some (.cells #[.int .i64 a0_0, (.slice A0_1 l0_1.length c0_1)] 26 (0, 0))) ∧ Aside0 (Below w.heap.size w w'))
   case atStart => exact ⟨(x5_1), (false), (0), (by first | rfl | (simp; done) | (simp [*]; done)), (by first | rfl | (simp; done) | (simp [*]; done)), H', ⟨Nat.le_refl _⟩, ⟨by (try simp only [hl5_1]); (with_reducible repeat (first | apply Kd.R_alloc | apply Kd.R_drewN | apply Kd.R_drew)); exact HO_5.out⟩, ⟨by (try simp only [hl5_1]); (with_reducible repeat (first | refine blk_drewN ?_ _ | refine blk_drew ?_ | refine blk_alloc ?_ _)); exact BK181.out⟩, ⟨by repeat (first | (with_reducible first | exact HB.out | apply below_alloc | apply pw_below_drewN | apply below_drew1 | refine below_set ?_ GE181.out) | exact HB.out)⟩⟩
   case round =>
    clear H'
    try clear c1
    try clear hx1
    try clear p2
    try clear c3
    try clear c3b0
    try clear c3b1
    try clear c4
    try clear c4b0
    try clear c4b1
    try clear c5
    try clear c5b0
    try clear c6
    try clear c6b0
    try clear c7
    try clear p7
    try clear q7
    try clear hx7
    try clear hf7
    try clear c12
    try clear hx12
    try clear hf12
    try clear c14
    try clear hcz15_0
    try clear hcz15_1
    try clear hcz9_0
    try clear hcz9_1
    try clear hfz15_0
    try clear hfz15_1
    try clear hfz9_0
    try clear hfz9_1
    try clear hx12_2
    try clear hx7_0
    try clear hx7_1
    try clear hx7_2
    try clear p2
    try clear p7
    try clear q7
    obtain ⟨x5_2, x6_2, x24_2, rfl, rfl, HA, HK2, HO_5, BK181, HB⟩ := hrel
    have hl5_2 := (Kd.R_reads' HO_5.out).1
    rw [hl5_2] at HO_5
    (try simp only [hl5_2])
    (try simp only [hl5_2] at BK181)
    cases gk with
    | zero => exact absurd HA.out (by simp [impl_Net_distances.l1])
    | succ k2 =>
     have H := HA.out
     clear HA
     simp only [impl_Net_distances.l1] at H
     by_cases c16 : x24_2 < (l0_1.length : Int)
     rotate_left
     ·rw [if_neg c16] at H
      have c16b0 : decide (x24_2 < (l0_1.length : Int)) = false := decide_eq_false c16
      (try (have c16bL := c16b0; simp only [hl5_1, hl5_2] at c16bL))
      clear c16
      have H' := Aside0.mk H
      clear H
      go_wp2
      (try simp only [← hl5_1, ← hl5_2])
      go_roundg k2
      case measure => have := HK1.out; have := HK2.out; omega
      case rel => exact ⟨(x5_2), (x6_2), (by first | rfl | (simp; done) | (simp [*]; done)), H', ⟨by have := HK1.out; have := HK2.out; omega⟩, ⟨by (try simp only [hl5_1]); (try simp only [hl5_2]); (with_reducible repeat (first | apply Kd.R_alloc | apply Kd.R_drewN | apply Kd.R_drew)); exact HO_5.out⟩, ⟨by (try simp only [hl5_1]); (try simp only [hl5_2]); (with_reducible repeat (first | refine blk_drewN ?_ _ | refine blk_drew ?_ | refine blk_alloc ?_ _)); exact BK181.out⟩, ⟨by repeat (first | (with_reducible first | exact HB.out | apply below_alloc | apply pw_below_drewN | apply below_drew1 | refine below_set ?_ GE181.out) | exact HB.out)⟩⟩
     rw [if_pos c16] at H
     have c16b0 : decide (x24_2 < (l0_1.length : Int)) = true := decide_eq_true c16
     (try (have c16bL := c16b0; simp only [hl5_1, hl5_2] at c16bL))
     clear c16
     by_cases c17 : 0 ≤ x24_2
     rotate_left
     ·rw [if_neg c17] at H
      exact absurd H (by simp)
     rw [if_pos c17] at H
     have c17b0 : decide (0 ≤ x24_2) = true := decide_eq_true c17
     clear c17
     by_cases c18 : x24_2 < (l0_1.length : Int)
     rotate_left
     ·rw [if_neg c18] at H
      exact absurd H (by simp)
     rw [if_pos c18] at H
     have c18b0 : decide (x24_2 < (l0_1.length : Int)) = true := decide_eq_true c18
     (try (have c18bL := c18b0; simp only [hl5_1, hl5_2] at c18bL))
     clear c18
     obtain ⟨y188, hy188⟩ : ∃ y_ : List Int, y_ = (([(rd_T54 l0_1 x24_2).f0, (rd_T54 l0_1 x24_2).f1] : List Int)) := ⟨_, rfl⟩
     replace H : (impl_Net_distances.l2 k2 x5_2 x6_2 l0_1 (l0_1.length : Int) x24_2 y188 (y188.length : Int) 0 a0_0 l0_1 ((rd_T54 l0_1 x24_2).f0) ((rd_T54 l0_1 x24_2).f1) ((rd_T54 l0_1 x24_2).f2) ((rd_T54 l0_1 x24_2).f3)) = some r := by first | (rw [hy188]; with_reducible exact H) | (have H2_ := (Option.bind_some _ _).symm.trans H; rw [hy188]; with_reducible exact H2_) | (have H2_ := (Option.bind_some _ _).symm.trans H; with_reducible exact H2_) | with_reducible exact H | (rw [hy188]; exact H) | exact H
     have Ny188 := Aside0.mk hy188
     clear hy188
     have H' := Aside0.mk H
     clear H
     have p186 : 0 ≤ (x24_2 : Int) := of_decide_eq_true (by first | (with_reducible assumption) | assumption)
     have q186 : x24_2 < (l0_1.length : Int) := of_decide_eq_true (by first | (with_reducible assumption) | assumption)
     obtain ⟨ad186, e186, hx186_0, hx186_1, hx186_2, hx186_3⟩ := at_T54 HR0_1.out x24_2 p186 q186
     cases e186
     replace hx186_0 := (HB.out.cell (World.block_lt_of_cell? w _ hx186_0)).trans hx186_0
     replace hx186_1 := (HB.out.cell (World.block_lt_of_cell? w _ hx186_1)).trans hx186_1
     replace hx186_2 := (HB.out.cell (World.block_lt_of_cell? w _ hx186_2)).trans hx186_2
     replace hx186_3 := (HB.out.cell (World.block_lt_of_cell? w _ hx186_3)).trans hx186_3
     replace p186 := eq_true p186
     replace q186 := eq_true q186
     go_wp2_with (first | ((with_reducible refine gate_dst (N := 8) rfl ?_); refine box_event ?hg (N := 8) ?hd (cs := #[.int .i64 0, .int .i64 0, .int .i64 0, .int .i64 0]) (t := 54) ?hr ?_; (case hd => rfl); (case hg => rfl); (case hr => first | (go_simp; done) | (go_simp; rfl)); intro gb187 hg w19 hbox hb; have n0_ := Aside0.mk (Kd.R_below HO_5.out hb); have n1_ := Aside0.mk (blk_below BK181.out hb); have n2_ := Aside0.mk (below_step HB.out hb); have n3_ := Aside0.mk (hbox); have n4_ := Aside0.mk ((by rw [hg]; exact (below_size HB.out) : w.heap.size ≤ gb187)); have n5_ := Aside0.mk ((by rw [hg]; exact (below_size HB.out) : w.heap.size ≤ gb187)); have n6_ := Aside0.mk ((by rw [hg]; exact Nat.ne_of_lt (blk_lt BK181.out) : gb181 ≠ gb187)); have n7_ := Aside0.mk ((by rw [hg]; exact Nat.ne_of_gt (blk_lt BK181.out) : gb187 ≠ gb181)); clear HO_5; clear BK181; clear HB; have HO_5 := n0_; have BK181 := n1_; have HB := n2_; have BK187 := n3_; have GW187 := n4_; have GE187 := n5_; have NB181_187 := n6_; have NB187_181 := n7_; clear n0_ n1_ n2_ n3_ n4_ n5_ n6_ n7_; clear hb hbox hg; have hnb20 := NB187_181.out; have hnc20 := NB181_187.out; have hcz21_0 : w19.cell? ⟨gb187, 0, none⟩ = some (.int .i64 0) := (blk_cell BK187.out 0).trans rfl; have hcz21_1 : w19.cell? ⟨gb187, 1, none⟩ = some (.int .i64 0) := (blk_cell BK187.out 1).trans rfl; have hcz21_2 : w19.cell? ⟨gb187, 2, none⟩ = some (.int .i64 0) := (blk_cell BK187.out 2).trans rfl; have hcz21_3 : w19.cell? ⟨gb187, 3, none⟩ = some (.int .i64 0) := (blk_cell BK187.out 3).trans rfl; have hfz21_0 := blk_frozen BK187.out 0; have hfz21_1 := blk_frozen BK187.out 1; have hfz21_2 := blk_frozen BK187.out 2; have hfz21_3 := blk_frozen BK187.out 3) | ((with_reducible refine gate_dst (N := 32) rfl ?_); refine Kd.R_lit (Kd.int .i64) _ 3 ?hg (N := 32) ?hd (xs := ([(rd_T54 l0_1 x24_2).f0, (rd_T54 l0_1 x24_2).f1] : List Int)) (inner := [.int .i64 ((rd_T54 l0_1 x24_2).f0), .int .i64 ((rd_T54 l0_1 x24_2).f1)]) (ok := fun _ => True) (okp := fun _ => True) ?hr ?hp (fun _ hk => hk) trivial (Below.refl _ _) (Nat.le_refl _) (by simp) ?_; (case hd => rfl); (case hg => rfl); (case hr => first | (go_simp; done) | (go_simp; rfl)); (case hp => exact (Reps.one (show Kd.M (Kd.int .i64) _ _ _ ((rd_T54 l0_1 x24_2).f0) [.int .i64 ((rd_T54 l0_1 x24_2).f0)] from rfl) (Reps.one (show Kd.M (Kd.int .i64) _ _ _ ((rd_T54 l0_1 x24_2).f1) [.int .i64 ((rd_T54 l0_1 x24_2).f1)] from rfl) (Reps.none _ _)))); intro v189 w22 ho23 hb hg_ hnew_; clear hg_ hnew_; (first | rw [← Ny188.out] at ho23 | (simp only [Int.reduceToNat] at ho23; rw [← Ny188.out] at ho23)); have n0_ := Aside0.mk (Kd.R_below (Kd.R_mono (Kd.R_far (p := ⟨gb187, 3, none⟩) (Kd.R_far (p := ⟨gb187, 2, none⟩) (Kd.R_far (p := ⟨gb187, 1, none⟩) (Kd.R_far (p := ⟨gb187, 0, none⟩) (Kd.R_types HO_5.out BK187.out (by decide)) (fun _ hk => hk.2) (.int .i64 ((rd_T54 l0_1 x24_2).f0))) (fun _ hk => hk.2) (.int .i64 ((rd_T54 l0_1 x24_2).f1))) (fun _ hk => hk.2) (.int .i64 ((rd_T54 l0_1 x24_2).f2))) (fun _ hk => hk.2) (.int .i64 ((rd_T54 l0_1 x24_2).f3))) (fun _ h_ => h_.1)) hb); have n1_ := Aside0.mk (Kd.R_lower ho23 (below_size (by repeat (first | (with_reducible first | exact HB.out | apply below_alloc | apply pw_below_drewN | apply below_drew1 | refine below_set ?_ GE181.out | refine below_set ?_ GE187.out) | exact HB.out)))); have n2_ := Aside0.mk (blk_below (g := gb181) (o := .cells #[.int .i64 a0_0, .slice (some ad186) l0_1.length c0_1] 26 (0, 0)) (by (with_reducible repeat (first | refine blk_drewN ?_ _ | refine blk_drew ?_ | refine blk_alloc ?_ _)); refine blk_far ?_ NB181_187.out _; (with_reducible repeat (first | refine blk_drewN ?_ _ | refine blk_drew ?_ | refine blk_alloc ?_ _)); refine blk_far ?_ NB181_187.out _; (with_reducible repeat (first | refine blk_drewN ?_ _ | refine blk_drew ?_ | refine blk_alloc ?_ _)); refine blk_far ?_ NB181_187.out _; (with_reducible repeat (first | refine blk_drewN ?_ _ | refine blk_drew ?_ | refine blk_alloc ?_ _)); refine blk_far ?_ NB181_187.out _; (with_reducible repeat (first | refine blk_drewN ?_ _ | refine blk_drew ?_ | refine blk_alloc ?_ _)); exact BK181.out) hb); have n3_ := Aside0.mk (blk_below (g := gb187) (o := .cells #[.int .i64 ((rd_T54 l0_1 x24_2).f0), .int .i64 ((rd_T54 l0_1 x24_2).f1), .int .i64 ((rd_T54 l0_1 x24_2).f2), .int .i64 ((rd_T54 l0_1 x24_2).f3)] 54 (0, 0)) (by (with_reducible repeat (first | refine blk_drewN ?_ _ | refine blk_drew ?_ | refine blk_alloc ?_ _)); refine blk_put (cs := #[.int .i64 ((rd_T54 l0_1 x24_2).f0), .int .i64 ((rd_T54 l0_1 x24_2).f1), .int .i64 ((rd_T54 l0_1 x24_2).f2), .int .i64 0]) ?_ 3 _ rfl; (with_reducible repeat (first | refine blk_drewN ?_ _ | refine blk_drew ?_ | refine blk_alloc ?_ _)); refine blk_put (cs := #[.int .i64 ((rd_T54 l0_1 x24_2).f0), .int .i64 ((rd_T54 l0_1 x24_2).f1), .int .i64 0, .int .i64 0]) ?_ 2 _ rfl; (with_reducible repeat (first | refine blk_drewN ?_ _ | refine blk_drew ?_ | refine blk_alloc ?_ _)); refine blk_put (cs := #[.int .i64 ((rd_T54 l0_1 x24_2).f0), .int .i64 0, .int .i64 0, .int .i64 0]) ?_ 1 _ rfl; (with_reducible repeat (first | refine blk_drewN ?_ _ | refine blk_drew ?_ | refine blk_alloc ?_ _)); refine blk_put (cs := #[.int .i64 0, .int .i64 0, .int .i64 0, .int .i64 0]) ?_ 0 _ rfl; (with_reducible repeat (first | refine blk_drewN ?_ _ | refine blk_drew ?_ | refine blk_alloc ?_ _)); exact BK187.out) hb); have n4_ := Aside0.mk (below_step (by repeat (first | (with_reducible first | exact HB.out | apply below_alloc | apply pw_below_drewN | apply below_drew1 | refine below_set ?_ GE181.out | refine below_set ?_ GE187.out) | exact HB.out)) hb); clear HO_5; clear BK181; clear BK187; clear HB; have HO_5 := n0_; have HO190 := n1_; have BK181 := n2_; have BK187 := n3_; have HB := n4_; clear n0_ n1_ n2_ n3_ n4_; clear hb ho23; obtain ⟨Ao24, co24, eo24⟩ := Kd.R_slice HO190.out; subst eo24))
     go_loopg [6, 34] k2 (fun kq v6 v34 w' => ∃ (x5_3 : List (S63)) (x6_3 : Bool) (x34_3 : Int), v6 = .bool x6_3 ∧ v34 = .int .i64 x34_3 ∧ Aside0 (impl_Net_distances.l2 kq x5_3 x6_3 l0_1 (l0_1.length : Int) x24_2 y188 (y188.length : Int) x34_3 a0_0 l0_1 ((rd_T54 l0_1 x24_2).f0) ((rd_T54 l0_1 x24_2).f1) ((rd_T54 l0_1 x24_2).f2) ((rd_T54 l0_1 x24_2).f3) = some r) ∧ Aside0 (kq ≤ k2) ∧ Aside0 (Kd.R k63 63 w' w.heap.size (fun _ => True) (.slice (some ⟨go7, 0, none⟩) x5_2.length co7) x5_3) ∧ Aside0 (Kd.R (Kd.int .i64) 3 w' w.heap.size (fun _ => True) (.slice Ao24 y188.length co24) y188) ∧ Aside0 (w'.heap[gb181]? = some (.cells #[.int .i64 a0_0, (.slice (some ad186) l0_1.length c0_1)] 26 (0, 0))) ∧ Aside0 (w'.heap[gb187]? = some (.cells #[.int .i64 ((rd_T54 l0_1 x24_2).f0), .int .i64 ((rd_T54 l0_1 x24_2).f1), .int .i64 ((rd_T54 l0_1 x24_2).f2), .int .i64 ((rd_T54 l0_1 x24_2).f3)] 54 (0, 0))) ∧ Aside0 (Below w.heap.size w w'))
     case atStart => exact ⟨(x5_2), (x6_2), (0), (by first | rfl | (simp; done) | (simp [*]; done)), (by first | rfl | (simp; done) | (simp [*]; done)), H', ⟨Nat.le_refl _⟩, ⟨by (try simp only [hl5_1]); (try simp only [hl5_2]); (with_reducible repeat (first | apply Kd.R_alloc | apply Kd.R_drewN | apply Kd.R_drew)); exact HO_5.out⟩, ⟨by (try simp only [hl5_1]); (try simp only [hl5_2]); (with_reducible repeat (first | apply Kd.R_alloc | apply Kd.R_drewN | apply Kd.R_drew)); exact HO190.out⟩, ⟨by (try simp only [hl5_1]); (try simp only [hl5_2]); (with_reducible repeat (first | refine blk_drewN ?_ _ | refine blk_drew ?_ | refine blk_alloc ?_ _)); exact BK181.out⟩, ⟨by (try simp only [hl5_1]); (try simp only [hl5_2]); (with_reducible repeat (first | refine blk_drewN ?_ _ | refine blk_drew ?_ | refine blk_alloc ?_ _)); exact BK187.out⟩, ⟨by repeat (first | (with_reducible first | exact HB.out | apply below_alloc | apply pw_below_drewN | apply below_drew1 | refine below_set ?_ GE181.out | refine below_set ?_ GE187.out) | exact HB.out)⟩⟩
     case round =>
      clear H'
      try clear c1
      try clear p1
      try clear q1
      try clear hx1
      try clear c2
      try clear p2
      try clear c3
      try clear c3b0
      try clear c3b1
      try clear c4
      try clear c4b0
      try clear c4b1
      try clear c5
      try clear c5b0
      try clear c6
      try clear c6b0
      try clear c7
      try clear p7
      try clear q7
      try clear hx7
      try clear hf7
      try clear c12
      try clear hx12
      try clear hf12
      try clear c14
      try clear c16
      try clear c16b0
      try clear c17
      try clear c17b0
      try clear c18
      try clear c18b0
      try clear p18
      try clear q18
      try clear hx18
      try clear c20
      try clear hcz15_0
      try clear hcz15_1
      try clear hcz21_0
      try clear hcz21_1
      try clear hcz21_2
      try clear hcz21_3
      try clear hcz9_0
      try clear hcz9_1
      try clear hfz15_0
      try clear hfz15_1
      try clear hfz21_0
      try clear hfz21_1
      try clear hfz21_2
      try clear hfz21_3
      try clear hfz9_0
      try clear hfz9_1
      try clear hx12_2
      try clear hx186_0
      try clear hx186_1
      try clear hx186_2
      try clear hx186_3
      try clear hx7_0
      try clear hx7_1
      try clear hx7_2
      try clear p186
      try clear p2
      try clear p7
      try clear q186
      try clear q7
      obtain ⟨x5_3, x6_3, x34_3, rfl, rfl, HA, HK3, HO_5, HO_32, BK181, BK187, HB⟩ := hrel
      have hl5_3 := (Kd.R_reads' HO_5.out).1
      rw [hl5_3] at HO_5
      (try simp only [hl5_3])
      (try simp only [hl5_3] at BK181)
      (try simp only [hl5_3] at BK187)
      (try simp only [hl5_3] at HO_32)
      cases gk with
      | zero => exact absurd HA.out (by simp [impl_Net_distances.l2])
      | succ k3 =>
       have H := HA.out
       clear HA
       simp only [impl_Net_distances.l2] at H
       by_cases c25 : x34_3 < (y188.length : Int)
       rotate_left
       ·rw [if_neg c25] at H
        have c25b0 : decide (x34_3 < (y188.length : Int)) = false := decide_eq_false c25
        (try (have c25bL := c25b0; simp only [hl5_1, hl5_2, hl5_3] at c25bL))
        clear c25
        have H' := Aside0.mk H
        clear H
        go_wp2
        (try simp only [← hl5_2, ← hl5_3])
        go_roundg k3
        case measure => have := HK1.out; have := HK2.out; have := HK3.out; omega
        case rel => exact ⟨(x5_3), (x6_3), (wrap64 (x24_2 + 1)), (by first | rfl | (simp; done) | (simp [*]; done)), (by first | rfl | (simp; done) | (simp [*]; done)), H', ⟨by have := HK1.out; have := HK2.out; have := HK3.out; omega⟩, ⟨by (try simp only [hl5_1]); (try simp only [hl5_2]); (try simp only [hl5_3]); (with_reducible repeat (first | apply Kd.R_alloc | apply Kd.R_drewN | apply Kd.R_drew)); exact HO_5.out⟩, ⟨by (try simp only [hl5_1]); (try simp only [hl5_2]); (try simp only [hl5_3]); (with_reducible repeat (first | refine blk_drewN ?_ _ | refine blk_drew ?_ | refine blk_alloc ?_ _)); exact BK181.out⟩, ⟨by repeat (first | (with_reducible first | exact HB.out | apply below_alloc | apply pw_below_drewN | apply below_drew1 | refine below_set ?_ GE181.out | refine below_set ?_ GE187.out) | exact HB.out)⟩⟩
       rw [if_pos c25] at H
       have c25b0 : decide (x34_3 < (y188.length : Int)) = true := decide_eq_true c25
       (try (have c25bL := c25b0; simp only [hl5_1, hl5_2, hl5_3] at c25bL))
       clear c25
       by_cases c26 : 0 ≤ x34_3
       rotate_left
       ·rw [if_neg c26] at H
        exact absurd H (by simp)
       rw [if_pos c26] at H
       have c26b0 : decide (0 ≤ x34_3) = true := decide_eq_true c26
       clear c26
       by_cases c27 : x34_3 < (y188.length : Int)
       rotate_left
       ·rw [if_neg c27] at H
        exact absurd H (by simp)
       rw [if_pos c27] at H
       have c27b0 : decide (x34_3 < (y188.length : Int)) = true := decide_eq_true c27
       (try (have c27bL := c27b0; simp only [hl5_1, hl5_2, hl5_3] at c27bL))
       clear c27
       replace H := Option.bind_eq_some_iff.mp H
       obtain ⟨⟨t192, t193⟩, A280, H⟩ := H
       replace H : (if 0 ≤ (rd y188 x34_3) then (if (rd y188 x34_3) < (x5_3.length : Int) then (if (rd_T63 x5_3 (rd y188 x34_3)).f2 = true then (if 0 ≤ t192 then (if t192 < (x5_3.length : Int) then ((impl_reach_better.f ((rd_T63 x5_3 t192).f0) ((rd_T63 x5_3 t192).f1) ((rd_T63 x5_3 t192).f2) (wrap64 (((rd_T63 x5_3 (rd y188 x34_3)).f0) + ((rd_T54 l0_1 x24_2).f2))) (wrap64 (((rd_T63 x5_3 (rd y188 x34_3)).f1) + 1))).bind fun t198 => (if t198 = true then (impl_Net_distances.l2 k3 (x5_3.set (t192 : Int).toNat (⟨wrap64 (((rd_T63 x5_3 (rd y188 x34_3)).f0) + ((rd_T54 l0_1 x24_2).f2)), wrap64 (((rd_T63 x5_3 (rd y188 x34_3)).f1) + 1), true⟩ : S63)) true l0_1 (l0_1.length : Int) x24_2 y188 (y188.length : Int) (wrap64 (x34_3 + 1)) a0_0 l0_1 ((rd_T54 l0_1 x24_2).f0) ((rd_T54 l0_1 x24_2).f1) ((rd_T54 l0_1 x24_2).f2) ((rd_T54 l0_1 x24_2).f3)) else (impl_Net_distances.l2 k3 x5_3 x6_3 l0_1 (l0_1.length : Int) x24_2 y188 (y188.length : Int) (wrap64 (x34_3 + 1)) a0_0 l0_1 ((rd_T54 l0_1 x24_2).f0) ((rd_T54 l0_1 x24_2).f1) ((rd_T54 l0_1 x24_2).f2) ((rd_T54 l0_1 x24_2).f3)))) else (none)) else (none)) else (impl_Net_distances.l2 k3 x5_3 x6_3 l0_1 (l0_1.length : Int) x24_2 y188 (y188.length : Int) (wrap64 (x34_3 + 1)) a0_0 l0_1 ((rd_T54 l0_1 x24_2).f0) ((rd_T54 l0_1 x24_2).f1) ((rd_T54 l0_1 x24_2).f2) ((rd_T54 l0_1 x24_2).f3))) else (none)) else (none)) = some r := H
       have A28 := Aside0.mk A280
       clear A280
       by_cases c29 : 0 ≤ (rd y188 x34_3)
       rotate_left
       ·rw [if_neg c29] at H
        exact absurd H (by simp)
       rw [if_pos c29] at H
       have c29b0 : decide (0 ≤ (rd y188 x34_3)) = true := decide_eq_true c29
       clear c29
       by_cases c30 : (rd y188 x34_3) < (x5_3.length : Int)
       rotate_left
       ·rw [if_neg c30] at H
        exact absurd H (by simp)
       rw [if_pos c30] at H
       have c30b0 : decide ((rd y188 x34_3) < (x5_3.length : Int)) = true := decide_eq_true c30
       (try (have c30bL := c30b0; simp only [hl5_1, hl5_2, hl5_3] at c30bL))
       clear c30
       obtain ⟨bq31, hbq31⟩ : ∃ b_ : Bool, b_ = ((rd_T63 x5_3 (rd y188 x34_3)).f2) := ⟨_, rfl⟩
       replace H : (if bq31 = true then (if 0 ≤ t192 then (if t192 < (x5_3.length : Int) then ((impl_reach_better.f ((rd_T63 x5_3 t192).f0) ((rd_T63 x5_3 t192).f1) ((rd_T63 x5_3 t192).f2) (wrap64 (((rd_T63 x5_3 (rd y188 x34_3)).f0) + ((rd_T54 l0_1 x24_2).f2))) (wrap64 (((rd_T63 x5_3 (rd y188 x34_3)).f1) + 1))).bind fun t198 => (if t198 = true then (impl_Net_distances.l2 k3 (x5_3.set (t192 : Int).toNat (⟨wrap64 (((rd_T63 x5_3 (rd y188 x34_3)).f0) + ((rd_T54 l0_1 x24_2).f2)), wrap64 (((rd_T63 x5_3 (rd y188 x34_3)).f1) + 1), true⟩ : S63)) true l0_1 (l0_1.length : Int) x24_2 y188 (y188.length : Int) (wrap64 (x34_3 + 1)) a0_0 l0_1 ((rd_T54 l0_1 x24_2).f0) ((rd_T54 l0_1 x24_2).f1) ((rd_T54 l0_1 x24_2).f2) ((rd_T54 l0_1 x24_2).f3)) else (impl_Net_distances.l2 k3 x5_3 x6_3 l0_1 (l0_1.length : Int) x24_2 y188 (y188.length : Int) (wrap64 (x34_3 + 1)) a0_0 l0_1 ((rd_T54 l0_1 x24_2).f0) ((rd_T54 l0_1 x24_2).f1) ((rd_T54 l0_1 x24_2).f2) ((rd_T54 l0_1 x24_2).f3)))) else (none)) else (none)) else (impl_Net_distances.l2 k3 x5_3 x6_3 l0_1 (l0_1.length : Int) x24_2 y188 (y188.length : Int) (wrap64 (x34_3 + 1)) a0_0 l0_1 ((rd_T54 l0_1 x24_2).f0) ((rd_T54 l0_1 x24_2).f1) ((rd_T54 l0_1 x24_2).f2) ((rd_T54 l0_1 x24_2).f3))) = some r := by rw [← hbq31] at H; exact H
       have Nbq31 := Aside0.mk hbq31
       clear hbq31
       by_cases c32 : bq31 = true
       rotate_left
       ·replace c32 := Bool.eq_false_iff.mpr c32
        subst c32
        have H1 : (impl_Net_distances.l2 k3 x5_3 x6_3 l0_1 (l0_1.length : Int) x24_2 y188 (y188.length : Int) (wrap64 (x34_3 + 1)) a0_0 l0_1 ((rd_T54 l0_1 x24_2).f0) ((rd_T54 l0_1 x24_2).f1) ((rd_T54 l0_1 x24_2).f2) ((rd_T54 l0_1 x24_2).f3)) = some r := by (first | (rw [if_neg (show ¬ (false = true) by decide)] at H; exact H) | rfl)
        clear H
        have H := H1
        clear H1
        have H' := Aside0.mk H
        clear H
        have p191 : 0 ≤ (x34_3 : Int) := of_decide_eq_true (by first | (with_reducible assumption) | assumption)
        have q191 : x34_3 < (y188.length : Int) := of_decide_eq_true (by first | (with_reducible assumption) | assumption)
        obtain ⟨ad191, e191, hx191_0⟩ := Kd.at_int (Kd.R_reads' HO_32.out).2.2 x34_3 p191 q191
        cases e191
        replace p191 := eq_true p191
        replace q191 := eq_true q191
        have hnb50 := NB187_181.out
        have hnc50 := NB181_187.out
        have hcz51_0 : wr.cell? ⟨gb187, 0, none⟩ = some (.int .i64 ((rd_T54 l0_1 x24_2).f0)) := (blk_cell BK187.out 0).trans rfl
        have hcz51_1 : wr.cell? ⟨gb187, 1, none⟩ = some (.int .i64 ((rd_T54 l0_1 x24_2).f1)) := (blk_cell BK187.out 1).trans rfl
        have hcz51_2 : wr.cell? ⟨gb187, 2, none⟩ = some (.int .i64 ((rd_T54 l0_1 x24_2).f2)) := (blk_cell BK187.out 2).trans rfl
        have hcz51_3 : wr.cell? ⟨gb187, 3, none⟩ = some (.int .i64 ((rd_T54 l0_1 x24_2).f3)) := (blk_cell BK187.out 3).trans rfl
        have hfz51_0 := blk_frozen BK187.out 0
        have hfz51_1 := blk_frozen BK187.out 1
        have hfz51_2 := blk_frozen BK187.out 2
        have hfz51_3 := blk_frozen BK187.out 3
        try go_wp2_with (first | ((with_reducible refine gate_callee (f := 48) rfl ?_); refine goesL_ (some 41) rfl rfl Try.func48 (by kernel_rfl) rfl #[.agg #[.int .i64 ((rd_T54 l0_1 x24_2).f0), .int .i64 ((rd_T54 l0_1 x24_2).f1), .int .i64 ((rd_T54 l0_1 x24_2).f2), .int .i64 ((rd_T54 l0_1 x24_2).f3)], .int .i64 (rd y188 x34_3)] rfl (by (try simp only [List.map_toArray, List.map_cons, List.map_nil]); first | done | rfl | (simp only [List.length_drop, List.length_take]; rfl)) ?_; (with_reducible refine (impl_Edge_other.calls ((rd_T54 l0_1 x24_2).f0) ((rd_T54 l0_1 x24_2).f1) ((rd_T54 l0_1 x24_2).f2) ((rd_T54 l0_1 x24_2).f3) (rd y188 x34_3) t192 t193 _ A28.out).mono ?_); rintro e w52 ⟨rfl, hb⟩; refine ⟨_, rfl, ?_⟩; have n0_ := Aside0.mk (Kd.R_below HO_5.out hb); have n1_ := Aside0.mk (Kd.R_below HO_32.out hb); have n2_ := Aside0.mk (blk_below BK181.out hb); have n3_ := Aside0.mk (blk_below BK187.out hb); have n4_ := Aside0.mk (below_step HB.out hb); clear HO_5; clear HO_32; clear BK181; clear BK187; clear HB; have HO_5 := n0_; have HO_32 := n1_; have BK181 := n2_; have BK187 := n3_; have HB := n4_; clear n0_ n1_ n2_ n3_ n4_; (try clear hb); (try clear hb2); (try clear hk); (try clear hi)))
        replace HO_5 := Aside0.mk (Kd.R_drew HO_5.out)
        replace HO_32 := Aside0.mk (Kd.R_drew HO_32.out)
        replace BK181 := Aside0.mk (blk_drew BK181.out)
        replace BK187 := Aside0.mk (blk_drew BK187.out)
        replace HB := Aside0.mk (below_drew1 HB.out)
        have p194 : 0 ≤ ((rd y188 x34_3) : Int) := of_decide_eq_true (by first | (with_reducible assumption) | assumption)
        have q194 : (rd y188 x34_3) < (x5_3.length : Int) := of_decide_eq_true (by first | (with_reducible assumption) | assumption)
        obtain ⟨ad194, e194, hx194_0, hx194_1, hx194_2⟩ := at_T63 (Kd.R_reads' HO_5.out).2.2 (rd y188 x34_3) p194 q194
        (try rw [← Nbq31.out] at hx194_2)
        obtain rfl : (⟨go7, 0, none⟩ : Addr) = ad194 := (by injection e194)
        (first | simp only [add_plain] at hx194_0 | simp only [add_at] at hx194_0 | simp only [Addr.add, Nat.zero_add] at hx194_0 | skip)
        (first | simp only [add_plain] at hx194_1 | simp only [add_at] at hx194_1 | simp only [Addr.add, Nat.zero_add] at hx194_1 | skip)
        (first | simp only [add_plain] at hx194_2 | simp only [add_at] at hx194_2 | simp only [Addr.add, Nat.zero_add] at hx194_2 | skip)
        replace p194 := eq_true p194
        replace q194 := eq_true q194
        refine start_ (n := 26) (S := fun w' => w'.cell? ⟨go7, ((rd y188 x34_3)).toNat * 3, none⟩ = some (.int .i64 ((rd_T63 x5_3 (rd y188 x34_3)).f0)) ∧ w'.cell? ⟨go7, ((rd y188 x34_3)).toNat * 3 + 1, none⟩ = some (.int .i64 ((rd_T63 x5_3 (rd y188 x34_3)).f1)) ∧ w'.cell? ⟨go7, ((rd y188 x34_3)).toNat * 3 + 2, none⟩ = some (.bool false)) (ds := []) #[false, false, false, false, false, false, false, false, false, false, false, false, false, false, false, false, false, false, false, false, false, false, false, false, false, false] (by kernel_rfl) rfl rfl ⟨hx194_0, hx194_1, hx194_2⟩ (fun hHeld => ?_); refine with_tabW impl_Net_distances.tab13 impl_Net_distances.bits13 (fun HT_ HW_ => ?_)
        generalize w52.drew = w53 at HO_5 HO_32 BK181 BK187 HB hx194_0 hx194_1 hx194_2 hHeld ⊢
        refine pure_ (i := 0) (N := some 44) (v := ?_) (a' := ?_) #[true, false, false, false, false, false, false, false, false, false, false, false, false, false, false, false, false, false, false, false, false, false, false, false, false, false] rfl rfl (any_of HT_.out (by kernel_rfl)) (fun _ _ _ h => h) (Or.inl ⟨by rfl, ?_⟩) ?_ ?_
        rotate_left
        ·intro w'
         go_simp
         with_reducible rfl
        rotate_left
        ·simp only [Act.put, List.setIfInBounds_toArray, List.set_cons_zero, List.set_cons_succ, i64_w, i32_w]
         rfl
        refine pure_ (i := 1) (N := some 45) (v := ?_) (a' := ?_) #[true, true, false, false, false, false, false, false, false, false, false, false, false, false, false, false, false, false, false, false, false, false, false, false, false, false] rfl rfl (any_of HT_.out (by kernel_rfl)) (fun _ _ _ h => h) (Or.inl ⟨by rfl, ?_⟩) ?_ ?_
        rotate_left
        ·intro w'
         go_simp
         with_reducible rfl
        rotate_left
        ·simp only [Act.put, List.setIfInBounds_toArray, List.set_cons_zero, List.set_cons_succ, i64_w, i32_w]
         rfl
        refine pure_ (i := 2) (N := some 46) (v := ?_) (a' := ?_) #[true, true, true, false, false, false, false, false, false, false, false, false, false, false, false, false, false, false, false, false, false, false, false, false, false, false] rfl rfl (any_of HT_.out (by kernel_rfl)) (fun _ _ _ h => h) (Or.inl ⟨by rfl, ?_⟩) ?_ ?_
        rotate_left
        ·intro w'
         go_simp
         with_reducible rfl
        rotate_left
        ·simp only [Act.put, List.setIfInBounds_toArray, List.set_cons_zero, List.set_cons_succ, i64_w, i32_w]
         rfl
        refine pure_ (i := 3) (N := some 47) (v := ?_) (a' := ?_) #[true, true, true, true, false, false, false, false, false, false, false, false, false, false, false, false, false, false, false, false, false, false, false, false, false, false] rfl rfl (any_of HT_.out (by kernel_rfl)) (fun _ _ _ h => h) (Or.inl ⟨by rfl, ?_⟩) ?_ ?_
        rotate_left
        ·intro w'
         go_simp
         with_reducible rfl
        rotate_left
        ·simp only [Act.put, List.setIfInBounds_toArray, List.set_cons_zero, List.set_cons_succ, i64_w, i32_w]
         rfl
        refine take_ (i := 4) (N := some 48) (v := ?_) (a' := ?_) #[true, true, true, true, true, false, false, false, false, false, false, false, false, false, false, false, false, false, false, false, false, false, false, false, false, false] rfl rfl (take_ofW HT_.out HW_.out (by kernel_rfl)) (fun _ _ _ h => h) (Or.inl ⟨by rfl, ?_⟩) hHeld ?_ ?_
        rotate_left
        ·rintro w' ⟨s0, s1, s2⟩
         go_simp
         with_reducible rfl
        rotate_left
        ·simp only [Act.put, List.setIfInBounds_toArray, List.set_cons_zero, List.set_cons_succ, i64_w, i32_w]
         rfl
        refine pure_ (i := 5) (N := some 49) (v := ?_) (a' := ?_) #[true, true, true, true, true, true, false, false, false, false, false, false, false, false, false, false, false, false, false, false, false, false, false, false, false, false] rfl rfl (any_of HT_.out (by kernel_rfl)) (fun _ _ _ h => h) (Or.inl ⟨by rfl, ?_⟩) ?_ ?_
        rotate_left
        ·intro w'
         go_simp
         with_reducible rfl
        rotate_left
        ·simp only [Act.put, List.setIfInBounds_toArray, List.set_cons_zero, List.set_cons_succ, i64_w, i32_w]
         rfl
        refine pure_ (i := 6) (N := some 50) (v := undef) (a' := ?_) #[true, true, true, true, true, true, true, false, false, false, false, false, false, false, false, false, false, false, false, false, false, false, false, false, false, false] rfl rfl (any_of HT_.out (by kernel_rfl)) (fun _ _ _ h => h) (Or.inr ⟨by rfl, rfl⟩) ?_ ?_
        rotate_left
        ·simp only [Act.put, List.setIfInBounds_toArray, List.set_cons_zero, List.set_cons_succ, i64_w, i32_w]
         rfl
        refine pure_ (i := 7) (N := some 51) (v := undef) (a' := ?_) #[true, true, true, true, true, true, true, true, false, false, false, false, false, false, false, false, false, false, false, false, false, false, false, false, false, false] rfl rfl (any_of HT_.out (by kernel_rfl)) (fun _ _ _ h => h) (Or.inr ⟨by rfl, rfl⟩) ?_ ?_
        rotate_left
        ·simp only [Act.put, List.setIfInBounds_toArray, List.set_cons_zero, List.set_cons_succ, i64_w, i32_w]
         rfl
        refine pure_ (i := 8) (N := some 52) (v := undef) (a' := ?_) #[true, true, true, true, true, true, true, true, true, false, false, false, false, false, false, false, false, false, false, false, false, false, false, false, false, false] rfl rfl (any_of HT_.out (by kernel_rfl)) (fun _ _ _ h => h) (Or.inr ⟨by rfl, rfl⟩) ?_ ?_
        rotate_left
        ·simp only [Act.put, List.setIfInBounds_toArray, List.set_cons_zero, List.set_cons_succ, i64_w, i32_w]
         rfl
        refine pure_ (i := 9) (N := some 53) (v := undef) (a' := ?_) #[true, true, true, true, true, true, true, true, true, true, false, false, false, false, false, false, false, false, false, false, false, false, false, false, false, false] rfl rfl (any_of HT_.out (by kernel_rfl)) (fun _ _ _ h => h) (Or.inr ⟨by rfl, rfl⟩) ?_ ?_
        rotate_left
        ·simp only [Act.put, List.setIfInBounds_toArray, List.set_cons_zero, List.set_cons_succ, i64_w, i32_w]
         rfl
        refine pure_ (i := 10) (N := some 54) (v := undef) (a' := ?_) #[true, true, true, true, true, true, true, true, true, true, true, false, false, false, false, false, false, false, false, false, false, false, false, false, false, false] rfl rfl (any_of HT_.out (by kernel_rfl)) (fun _ _ _ h => h) (Or.inr ⟨by rfl, rfl⟩) ?_ ?_
        rotate_left
        ·simp only [Act.put, List.setIfInBounds_toArray, List.set_cons_zero, List.set_cons_succ, i64_w, i32_w]
         rfl
        refine pure_ (i := 11) (N := some 55) (v := undef) (a' := ?_) #[true, true, true, true, true, true, true, true, true, true, true, true, false, false, false, false, false, false, false, false, false, false, false, false, false, false] rfl rfl (any_of HT_.out (by kernel_rfl)) (fun _ _ _ h => h) (Or.inr ⟨by rfl, rfl⟩) ?_ ?_
        rotate_left
        ·simp only [Act.put, List.setIfInBounds_toArray, List.set_cons_zero, List.set_cons_succ, i64_w, i32_w]
         rfl
        refine pure_ (i := 12) (N := some 56) (v := undef) (a' := ?_) #[true, true, true, true, true, true, true, true, true, true, true, true, true, false, false, false, false, false, false, false, false, false, false, false, false, false] rfl rfl (any_of HT_.out (by kernel_rfl)) (fun _ _ _ h => h) (Or.inr ⟨by rfl, rfl⟩) ?_ ?_
        rotate_left
        ·simp only [Act.put, List.setIfInBounds_toArray, List.set_cons_zero, List.set_cons_succ, i64_w, i32_w]
         rfl
        refine pure_ (i := 13) (N := some 57) (v := undef) (a' := ?_) #[true, true, true, true, true, true, true, true, true, true, true, true, true, true, false, false, false, false, false, false, false, false, false, false, false, false] rfl rfl (any_of HT_.out (by kernel_rfl)) (fun _ _ _ h => h) (Or.inr ⟨by rfl, rfl⟩) ?_ ?_
        rotate_left
        ·simp only [Act.put, List.setIfInBounds_toArray, List.set_cons_zero, List.set_cons_succ, i64_w, i32_w]
         rfl
        refine pure_ (i := 14) (N := some 58) (v := undef) (a' := ?_) #[true, true, true, true, true, true, true, true, true, true, true, true, true, true, true, false, false, false, false, false, false, false, false, false, false, false] rfl rfl (any_of HT_.out (by kernel_rfl)) (fun _ _ _ h => h) (Or.inr ⟨by rfl, rfl⟩) ?_ ?_
        rotate_left
        ·simp only [Act.put, List.setIfInBounds_toArray, List.set_cons_zero, List.set_cons_succ, i64_w, i32_w]
         rfl
        refine pure_ (i := 15) (N := some 59) (v := undef) (a' := ?_) #[true, true, true, true, true, true, true, true, true, true, true, true, true, true, true, true, false, false, false, false, false, false, false, false, false, false] rfl rfl (any_of HT_.out (by kernel_rfl)) (fun _ _ _ h => h) (Or.inr ⟨by rfl, rfl⟩) ?_ ?_
        rotate_left
        ·simp only [Act.put, List.setIfInBounds_toArray, List.set_cons_zero, List.set_cons_succ, i64_w, i32_w]
         rfl
        refine pure_ (i := 16) (N := some 60) (v := undef) (a' := ?_) #[true, true, true, true, true, true, true, true, true, true, true, true, true, true, true, true, true, false, false, false, false, false, false, false, false, false] rfl rfl (any_of HT_.out (by kernel_rfl)) (fun _ _ _ h => h) (Or.inr ⟨by rfl, rfl⟩) ?_ ?_
        rotate_left
        ·simp only [Act.put, List.setIfInBounds_toArray, List.set_cons_zero, List.set_cons_succ, i64_w, i32_w]
         rfl
        refine pure_ (i := 17) (N := some 61) (v := undef) (a' := ?_) #[true, true, true, true, true, true, true, true, true, true, true, true, true, true, true, true, true, true, false, false, false, false, false, false, false, false] rfl rfl (any_of HT_.out (by kernel_rfl)) (fun _ _ _ h => h) (Or.inr ⟨by rfl, rfl⟩) ?_ ?_
        rotate_left
        ·simp only [Act.put, List.setIfInBounds_toArray, List.set_cons_zero, List.set_cons_succ, i64_w, i32_w]
         rfl
        refine pure_ (i := 18) (N := some 62) (v := undef) (a' := ?_) #[true, true, true, true, true, true, true, true, true, true, true, true, true, true, true, true, true, true, true, false, false, false, false, false, false, false] rfl rfl (any_of HT_.out (by kernel_rfl)) (fun _ _ _ h => h) (Or.inr ⟨by rfl, rfl⟩) ?_ ?_
        rotate_left
        ·simp only [Act.put, List.setIfInBounds_toArray, List.set_cons_zero, List.set_cons_succ, i64_w, i32_w]
         rfl
        refine pure_ (i := 19) (N := some 63) (v := undef) (a' := ?_) #[true, true, true, true, true, true, true, true, true, true, true, true, true, true, true, true, true, true, true, true, false, false, false, false, false, false] rfl rfl (any_of HT_.out (by kernel_rfl)) (fun _ _ _ h => h) (Or.inr ⟨by rfl, rfl⟩) ?_ ?_
        rotate_left
        ·simp only [Act.put, List.setIfInBounds_toArray, List.set_cons_zero, List.set_cons_succ, i64_w, i32_w]
         rfl
        refine pure_ (i := 20) (N := some 64) (v := undef) (a' := ?_) #[true, true, true, true, true, true, true, true, true, true, true, true, true, true, true, true, true, true, true, true, true, false, false, false, false, false] rfl rfl (any_of HT_.out (by kernel_rfl)) (fun _ _ _ h => h) (Or.inr ⟨by rfl, rfl⟩) ?_ ?_
        rotate_left
        ·simp only [Act.put, List.setIfInBounds_toArray, List.set_cons_zero, List.set_cons_succ, i64_w, i32_w]
         rfl
        refine pure_ (i := 21) (N := some 65) (v := undef) (a' := ?_) #[true, true, true, true, true, true, true, true, true, true, true, true, true, true, true, true, true, true, true, true, true, true, false, false, false, false] rfl rfl (any_of HT_.out (by kernel_rfl)) (fun _ _ _ h => h) (Or.inr ⟨by rfl, rfl⟩) ?_ ?_
        rotate_left
        ·simp only [Act.put, List.setIfInBounds_toArray, List.set_cons_zero, List.set_cons_succ, i64_w, i32_w]
         rfl
        refine pure_ (i := 22) (N := some 66) (v := undef) (a' := ?_) #[true, true, true, true, true, true, true, true, true, true, true, true, true, true, true, true, true, true, true, true, true, true, true, false, false, false] rfl rfl (any_of HT_.out (by kernel_rfl)) (fun _ _ _ h => h) (Or.inr ⟨by rfl, rfl⟩) ?_ ?_
        rotate_left
        ·simp only [Act.put, List.setIfInBounds_toArray, List.set_cons_zero, List.set_cons_succ, i64_w, i32_w]
         rfl
        refine pure_ (i := 23) (N := some 67) (v := undef) (a' := ?_) #[true, true, true, true, true, true, true, true, true, true, true, true, true, true, true, true, true, true, true, true, true, true, true, true, false, false] rfl rfl (any_of HT_.out (by kernel_rfl)) (fun _ _ _ h => h) (Or.inr ⟨by rfl, rfl⟩) ?_ ?_
        rotate_left
        ·simp only [Act.put, List.setIfInBounds_toArray, List.set_cons_zero, List.set_cons_succ, i64_w, i32_w]
         rfl
        refine pure_ (i := 24) (N := some 68) (v := undef) (a' := ?_) #[true, true, true, true, true, true, true, true, true, true, true, true, true, true, true, true, true, true, true, true, true, true, true, true, true, false] rfl rfl (any_of HT_.out (by kernel_rfl)) (fun _ _ _ h => h) (Or.inr ⟨by rfl, rfl⟩) ?_ ?_
        rotate_left
        ·simp only [Act.put, List.setIfInBounds_toArray, List.set_cons_zero, List.set_cons_succ, i64_w, i32_w]
         rfl
        refine pure_ (i := 25) (N := some 69) (v := ?_) (a' := ?_) #[true, true, true, true, true, true, true, true, true, true, true, true, true, true, true, true, true, true, true, true, true, true, true, true, true, true] rfl rfl (any_of HT_.out (by kernel_rfl)) (fun _ _ _ h => h) (Or.inl ⟨by rfl, ?_⟩) ?_ ?_
        rotate_left
        ·intro w'
         go_simp
         with_reducible rfl
        rotate_left
        ·simp only [Act.put, List.setIfInBounds_toArray, List.set_cons_zero, List.set_cons_succ, i64_w, i32_w]
         rfl
        refine done_ (done_of HT_.out (by kernel_rfl)) ?_
        try go_wp2
        (try simp only [← hl5_3])
        go_roundg k3
        case measure => have := HK1.out; have := HK2.out; have := HK3.out; omega
        case rel => exact ⟨(x5_3), (x6_3), (wrap64 (x34_3 + 1)), (by first | rfl | (simp; done) | (simp [*]; done)), (by first | rfl | (simp; done) | (simp [*]; done)), H', ⟨by have := HK1.out; have := HK2.out; have := HK3.out; omega⟩, ⟨by (try simp only [hl5_1]); (try simp only [hl5_2]); (try simp only [hl5_3]); (with_reducible repeat (first | apply Kd.R_alloc | apply Kd.R_drewN | apply Kd.R_drew)); exact HO_5.out⟩, ⟨by (try simp only [hl5_1]); (try simp only [hl5_2]); (try simp only [hl5_3]); (with_reducible repeat (first | apply Kd.R_alloc | apply Kd.R_drewN | apply Kd.R_drew)); exact HO_32.out⟩, ⟨by (try simp only [hl5_1]); (try simp only [hl5_2]); (try simp only [hl5_3]); (with_reducible repeat (first | refine blk_drewN ?_ _ | refine blk_drew ?_ | refine blk_alloc ?_ _)); exact BK181.out⟩, ⟨by (try simp only [hl5_1]); (try simp only [hl5_2]); (try simp only [hl5_3]); (with_reducible repeat (first | refine blk_drewN ?_ _ | refine blk_drew ?_ | refine blk_alloc ?_ _)); exact BK187.out⟩, ⟨by repeat (first | (with_reducible first | exact HB.out | apply below_alloc | apply pw_below_drewN | apply below_drew1 | refine below_set ?_ GE181.out | refine below_set ?_ GE187.out) | exact HB.out)⟩⟩
       subst c32
       have H1 : (if 0 ≤ t192 then (if t192 < (x5_3.length : Int) then ((impl_reach_better.f ((rd_T63 x5_3 t192).f0) ((rd_T63 x5_3 t192).f1) ((rd_T63 x5_3 t192).f2) (wrap64 (((rd_T63 x5_3 (rd y188 x34_3)).f0) + ((rd_T54 l0_1 x24_2).f2))) (wrap64 (((rd_T63 x5_3 (rd y188 x34_3)).f1) + 1))).bind fun t198 => (if t198 = true then (impl_Net_distances.l2 k3 (x5_3.set (t192 : Int).toNat (⟨wrap64 (((rd_T63 x5_3 (rd y188 x34_3)).f0) + ((rd_T54 l0_1 x24_2).f2)), wrap64 (((rd_T63 x5_3 (rd y188 x34_3)).f1) + 1), true⟩ : S63)) true l0_1 (l0_1.length : Int) x24_2 y188 (y188.length : Int) (wrap64 (x34_3 + 1)) a0_0 l0_1 ((rd_T54 l0_1 x24_2).f0) ((rd_T54 l0_1 x24_2).f1) ((rd_T54 l0_1 x24_2).f2) ((rd_T54 l0_1 x24_2).f3)) else (impl_Net_distances.l2 k3 x5_3 x6_3 l0_1 (l0_1.length : Int) x24_2 y188 (y188.length : Int) (wrap64 (x34_3 + 1)) a0_0 l0_1 ((rd_T54 l0_1 x24_2).f0) ((rd_T54 l0_1 x24_2).f1) ((rd_T54 l0_1 x24_2).f2) ((rd_T54 l0_1 x24_2).f3)))) else (none)) else (none)) = some r := by (first | (rw [if_pos rfl] at H; exact H) | rfl)
       clear H
       have H := H1
       clear H1
       by_cases c33 : 0 ≤ t192
       rotate_left
       ·rw [if_neg c33] at H
        exact absurd H (by simp)
       rw [if_pos c33] at H
       have c33b0 : decide (0 ≤ t192) = true := decide_eq_true c33
       clear c33
       by_cases c34 : t192 < (x5_3.length : Int)
       rotate_left
       ·rw [if_neg c34] at H
        exact absurd H (by simp)
       rw [if_pos c34] at H
       have c34b0 : decide (t192 < (x5_3.length : Int)) = true := decide_eq_true c34
       (try (have c34bL := c34b0; simp only [hl5_1, hl5_2, hl5_3] at c34bL))
       clear c34
       replace H := Option.bind_eq_some_iff.mp H
       obtain ⟨t198, A350, H⟩ := H
       replace H : (if t198 = true then (impl_Net_distances.l2 k3 (x5_3.set (t192 : Int).toNat (⟨wrap64 (((rd_T63 x5_3 (rd y188 x34_3)).f0) + ((rd_T54 l0_1 x24_2).f2)), wrap64 (((rd_T63 x5_3 (rd y188 x34_3)).f1) + 1), true⟩ : S63)) true l0_1 (l0_1.length : Int) x24_2 y188 (y188.length : Int) (wrap64 (x34_3 + 1)) a0_0 l0_1 ((rd_T54 l0_1 x24_2).f0) ((rd_T54 l0_1 x24_2).f1) ((rd_T54 l0_1 x24_2).f2) ((rd_T54 l0_1 x24_2).f3)) else (impl_Net_distances.l2 k3 x5_3 x6_3 l0_1 (l0_1.length : Int) x24_2 y188 (y188.length : Int) (wrap64 (x34_3 + 1)) a0_0 l0_1 ((rd_T54 l0_1 x24_2).f0) ((rd_T54 l0_1 x24_2).f1) ((rd_T54 l0_1 x24_2).f2) ((rd_T54 l0_1 x24_2).f3))) = some r := H
       have A35 := Aside0.mk A350
       clear A350
       by_cases c36 : t198 = true
       rotate_left
       ·replace c36 := Bool.eq_false_iff.mpr c36
        subst c36
        have H1 : (impl_Net_distances.l2 k3 x5_3 x6_3 l0_1 (l0_1.length : Int) x24_2 y188 (y188.length : Int) (wrap64 (x34_3 + 1)) a0_0 l0_1 ((rd_T54 l0_1 x24_2).f0) ((rd_T54 l0_1 x24_2).f1) ((rd_T54 l0_1 x24_2).f2) ((rd_T54 l0_1 x24_2).f3)) = some r := by (first | (rw [if_neg (show ¬ (false = true) by decide)] at H; exact H) | rfl)
        clear H
        have H := H1
        clear H1
        have H' := Aside0.mk H
        clear H
        have p191 : 0 ≤ (x34_3 : Int) := of_decide_eq_true (by first | (with_reducible assumption) | assumption)
        have q191 : x34_3 < (y188.length : Int) := of_decide_eq_true (by first | (with_reducible assumption) | assumption)
        obtain ⟨ad191, e191, hx191_0⟩ := Kd.at_int (Kd.R_reads' HO_32.out).2.2 x34_3 p191 q191
        cases e191
        replace p191 := eq_true p191
        replace q191 := eq_true q191
        have hnb45 := NB187_181.out
        have hnc45 := NB181_187.out
        have hcz46_0 : wr.cell? ⟨gb187, 0, none⟩ = some (.int .i64 ((rd_T54 l0_1 x24_2).f0)) := (blk_cell BK187.out 0).trans rfl
        have hcz46_1 : wr.cell? ⟨gb187, 1, none⟩ = some (.int .i64 ((rd_T54 l0_1 x24_2).f1)) := (blk_cell BK187.out 1).trans rfl
        have hcz46_2 : wr.cell? ⟨gb187, 2, none⟩ = some (.int .i64 ((rd_T54 l0_1 x24_2).f2)) := (blk_cell BK187.out 2).trans rfl
        have hcz46_3 : wr.cell? ⟨gb187, 3, none⟩ = some (.int .i64 ((rd_T54 l0_1 x24_2).f3)) := (blk_cell BK187.out 3).trans rfl
        have hfz46_0 := blk_frozen BK187.out 0
        have hfz46_1 := blk_frozen BK187.out 1
        have hfz46_2 := blk_frozen BK187.out 2
        have hfz46_3 := blk_frozen BK187.out 3
        try go_wp2_with (first | ((with_reducible refine gate_callee (f := 48) rfl ?_); refine goesL_ (some 41) rfl rfl Try.func48 (by kernel_rfl) rfl #[.agg #[.int .i64 ((rd_T54 l0_1 x24_2).f0), .int .i64 ((rd_T54 l0_1 x24_2).f1), .int .i64 ((rd_T54 l0_1 x24_2).f2), .int .i64 ((rd_T54 l0_1 x24_2).f3)], .int .i64 (rd y188 x34_3)] rfl (by (try simp only [List.map_toArray, List.map_cons, List.map_nil]); first | done | rfl | (simp only [List.length_drop, List.length_take]; rfl)) ?_; (with_reducible refine (impl_Edge_other.calls ((rd_T54 l0_1 x24_2).f0) ((rd_T54 l0_1 x24_2).f1) ((rd_T54 l0_1 x24_2).f2) ((rd_T54 l0_1 x24_2).f3) (rd y188 x34_3) t192 t193 _ A28.out).mono ?_); rintro e w47 ⟨rfl, hb⟩; refine ⟨_, rfl, ?_⟩; have n0_ := Aside0.mk (Kd.R_below HO_5.out hb); have n1_ := Aside0.mk (Kd.R_below HO_32.out hb); have n2_ := Aside0.mk (blk_below BK181.out hb); have n3_ := Aside0.mk (blk_below BK187.out hb); have n4_ := Aside0.mk (below_step HB.out hb); clear HO_5; clear HO_32; clear BK181; clear BK187; clear HB; have HO_5 := n0_; have HO_32 := n1_; have BK181 := n2_; have BK187 := n3_; have HB := n4_; clear n0_ n1_ n2_ n3_ n4_; (try clear hb); (try clear hb2); (try clear hk); (try clear hi)))
        replace HO_5 := Aside0.mk (Kd.R_drew HO_5.out)
        replace HO_32 := Aside0.mk (Kd.R_drew HO_32.out)
        replace BK181 := Aside0.mk (blk_drew BK181.out)
        replace BK187 := Aside0.mk (blk_drew BK187.out)
        replace HB := Aside0.mk (below_drew1 HB.out)
        have p194 : 0 ≤ ((rd y188 x34_3) : Int) := of_decide_eq_true (by first | (with_reducible assumption) | assumption)
        have q194 : (rd y188 x34_3) < (x5_3.length : Int) := of_decide_eq_true (by first | (with_reducible assumption) | assumption)
        obtain ⟨ad194, e194, hx194_0, hx194_1, hx194_2⟩ := at_T63 (Kd.R_reads' HO_5.out).2.2 (rd y188 x34_3) p194 q194
        (try rw [← Nbq31.out] at hx194_2)
        obtain rfl : (⟨go7, 0, none⟩ : Addr) = ad194 := (by injection e194)
        (first | simp only [add_plain] at hx194_0 | simp only [add_at] at hx194_0 | simp only [Addr.add, Nat.zero_add] at hx194_0 | skip)
        (first | simp only [add_plain] at hx194_1 | simp only [add_at] at hx194_1 | simp only [Addr.add, Nat.zero_add] at hx194_1 | skip)
        (first | simp only [add_plain] at hx194_2 | simp only [add_at] at hx194_2 | simp only [Addr.add, Nat.zero_add] at hx194_2 | skip)
        replace p194 := eq_true p194
        replace q194 := eq_true q194
        have p195 : 0 ≤ (t192 : Int) := of_decide_eq_true (by first | (with_reducible assumption) | assumption)
        have q195 : t192 < (x5_3.length : Int) := of_decide_eq_true (by first | (with_reducible assumption) | assumption)
        obtain ⟨ad195, e195, hx195_0, hx195_1, hx195_2⟩ := at_T63 (Kd.R_reads' HO_5.out).2.2 t192 p195 q195
        (try rw [← Nbq31.out] at hx195_2)
        obtain rfl : (⟨go7, 0, none⟩ : Addr) = ad195 := (by injection e195)
        (first | simp only [add_plain] at hx195_0 | simp only [add_at] at hx195_0 | simp only [Addr.add, Nat.zero_add] at hx195_0 | skip)
        (first | simp only [add_plain] at hx195_1 | simp only [add_at] at hx195_1 | simp only [Addr.add, Nat.zero_add] at hx195_1 | skip)
        (first | simp only [add_plain] at hx195_2 | simp only [add_at] at hx195_2 | simp only [Addr.add, Nat.zero_add] at hx195_2 | skip)
        replace p195 := eq_true p195
        replace q195 := eq_true q195
        have p196 : 0 ≤ ((rd y188 x34_3) : Int) := of_decide_eq_true (by first | (with_reducible assumption) | assumption)
        have q196 : (rd y188 x34_3) < (x5_3.length : Int) := of_decide_eq_true (by first | (with_reducible assumption) | assumption)
        obtain ⟨ad196, e196, hx196_0, hx196_1, hx196_2⟩ := at_T63 (Kd.R_reads' HO_5.out).2.2 (rd y188 x34_3) p196 q196
        (try rw [← Nbq31.out] at hx196_2)
        obtain rfl : (⟨go7, 0, none⟩ : Addr) = ad196 := (by injection e196)
        (first | simp only [add_plain] at hx196_0 | simp only [add_at] at hx196_0 | simp only [Addr.add, Nat.zero_add] at hx196_0 | skip)
        (first | simp only [add_plain] at hx196_1 | simp only [add_at] at hx196_1 | simp only [Addr.add, Nat.zero_add] at hx196_1 | skip)
        (first | simp only [add_plain] at hx196_2 | simp only [add_at] at hx196_2 | simp only [Addr.add, Nat.zero_add] at hx196_2 | skip)
        replace p196 := eq_true p196
        replace q196 := eq_true q196
        have p197 : 0 ≤ ((rd y188 x34_3) : Int) := of_decide_eq_true (by first | (with_reducible assumption) | assumption)
        have q197 : (rd y188 x34_3) < (x5_3.length : Int) := of_decide_eq_true (by first | (with_reducible assumption) | assumption)
        obtain ⟨ad197, e197, hx197_0, hx197_1, hx197_2⟩ := at_T63 (Kd.R_reads' HO_5.out).2.2 (rd y188 x34_3) p197 q197
        (try rw [← Nbq31.out] at hx197_2)
        obtain rfl : (⟨go7, 0, none⟩ : Addr) = ad197 := (by injection e197)
        (first | simp only [add_plain] at hx197_0 | simp only [add_at] at hx197_0 | simp only [Addr.add, Nat.zero_add] at hx197_0 | skip)
        (first | simp only [add_plain] at hx197_1 | simp only [add_at] at hx197_1 | simp only [Addr.add, Nat.zero_add] at hx197_1 | skip)
        (first | simp only [add_plain] at hx197_2 | simp only [add_at] at hx197_2 | simp only [Addr.add, Nat.zero_add] at hx197_2 | skip)
        replace p197 := eq_true p197
        replace q197 := eq_true q197
        refine start_ (n := 26) (S := fun w' => w'.cell? ⟨gb187, 0, none⟩ = some (.int .i64 ((rd_T54 l0_1 x24_2).f0)) ∧ w'.cell? ⟨gb187, 1, none⟩ = some (.int .i64 ((rd_T54 l0_1 x24_2).f1)) ∧ w'.cell? ⟨gb187, 2, none⟩ = some (.int .i64 ((rd_T54 l0_1 x24_2).f2)) ∧ w'.cell? ⟨gb187, 3, none⟩ = some (.int .i64 ((rd_T54 l0_1 x24_2).f3)) ∧ w'.cell? ⟨go7, ((rd y188 x34_3)).toNat * 3, none⟩ = some (.int .i64 ((rd_T63 x5_3 (rd y188 x34_3)).f0)) ∧ w'.cell? ⟨go7, ((rd y188 x34_3)).toNat * 3 + 1, none⟩ = some (.int .i64 ((rd_T63 x5_3 (rd y188 x34_3)).f1)) ∧ w'.cell? ⟨go7, ((rd y188 x34_3)).toNat * 3 + 2, none⟩ = some (.bool true) ∧ w'.cell? ⟨go7, (t192).toNat * 3, none⟩ = some (.int .i64 ((rd_T63 x5_3 t192).f0)) ∧ w'.cell? ⟨go7, (t192).toNat * 3 + 1, none⟩ = some (.int .i64 ((rd_T63 x5_3 t192).f1)) ∧ w'.cell? ⟨go7, (t192).toNat * 3 + 2, none⟩ = some (.bool ((rd_T63 x5_3 t192).f2)) ∧ w'.cell? ⟨go7, ((rd y188 x34_3)).toNat * 3, none⟩ = some (.int .i64 ((rd_T63 x5_3 (rd y188 x34_3)).f0)) ∧ w'.cell? ⟨go7, ((rd y188 x34_3)).toNat * 3 + 1, none⟩ = some (.int .i64 ((rd_T63 x5_3 (rd y188 x34_3)).f1)) ∧ w'.cell? ⟨go7, ((rd y188 x34_3)).toNat * 3 + 2, none⟩ = some (.bool (true)) ∧ w'.cell? ⟨go7, ((rd y188 x34_3)).toNat * 3, none⟩ = some (.int .i64 ((rd_T63 x5_3 (rd y188 x34_3)).f0)) ∧ w'.cell? ⟨go7, ((rd y188 x34_3)).toNat * 3 + 1, none⟩ = some (.int .i64 ((rd_T63 x5_3 (rd y188 x34_3)).f1)) ∧ w'.cell? ⟨go7, ((rd y188 x34_3)).toNat * 3 + 2, none⟩ = some (.bool (true))) (ds := []) #[false, false, false, false, false, false, false, false, false, false, false, false, false, false, false, false, false, false, false, false, false, false, false, false, false, false] (by kernel_rfl) rfl rfl ⟨(blk_cell BK187.out 0).trans rfl, (blk_cell BK187.out 1).trans rfl, (blk_cell BK187.out 2).trans rfl, (blk_cell BK187.out 3).trans rfl, hx194_0, hx194_1, hx194_2, hx195_0, hx195_1, hx195_2, hx196_0, hx196_1, hx196_2, hx197_0, hx197_1, hx197_2⟩ (fun hHeld => ?_); refine with_tabW impl_Net_distances.tab13 impl_Net_distances.bits13 (fun HT_ HW_ => ?_)
        generalize w47.drew = w48 at HO_5 HO_32 BK181 BK187 HB hx194_0 hx194_1 hx194_2 hx195_0 hx195_1 hx195_2 hx196_0 hx196_1 hx196_2 hx197_0 hx197_1 hx197_2 hHeld ⊢
        refine pure_ (i := 0) (N := some 44) (v := ?_) (a' := ?_) #[true, false, false, false, false, false, false, false, false, false, false, false, false, false, false, false, false, false, false, false, false, false, false, false, false, false] rfl rfl (any_of HT_.out (by kernel_rfl)) (fun _ _ _ h => h) (Or.inl ⟨by rfl, ?_⟩) ?_ ?_
        rotate_left
        ·intro w'
         go_simp
         with_reducible rfl
        rotate_left
        ·simp only [Act.put, List.setIfInBounds_toArray, List.set_cons_zero, List.set_cons_succ, i64_w, i32_w]
         rfl
        refine pure_ (i := 1) (N := some 45) (v := ?_) (a' := ?_) #[true, true, false, false, false, false, false, false, false, false, false, false, false, false, false, false, false, false, false, false, false, false, false, false, false, false] rfl rfl (any_of HT_.out (by kernel_rfl)) (fun _ _ _ h => h) (Or.inl ⟨by rfl, ?_⟩) ?_ ?_
        rotate_left
        ·intro w'
         go_simp
         with_reducible rfl
        rotate_left
        ·simp only [Act.put, List.setIfInBounds_toArray, List.set_cons_zero, List.set_cons_succ, i64_w, i32_w]
         rfl
        refine pure_ (i := 2) (N := some 46) (v := ?_) (a' := ?_) #[true, true, true, false, false, false, false, false, false, false, false, false, false, false, false, false, false, false, false, false, false, false, false, false, false, false] rfl rfl (any_of HT_.out (by kernel_rfl)) (fun _ _ _ h => h) (Or.inl ⟨by rfl, ?_⟩) ?_ ?_
        rotate_left
        ·intro w'
         go_simp
         with_reducible rfl
        rotate_left
        ·simp only [Act.put, List.setIfInBounds_toArray, List.set_cons_zero, List.set_cons_succ, i64_w, i32_w]
         rfl
        refine pure_ (i := 3) (N := some 47) (v := ?_) (a' := ?_) #[true, true, true, true, false, false, false, false, false, false, false, false, false, false, false, false, false, false, false, false, false, false, false, false, false, false] rfl rfl (any_of HT_.out (by kernel_rfl)) (fun _ _ _ h => h) (Or.inl ⟨by rfl, ?_⟩) ?_ ?_
        rotate_left
        ·intro w'
         go_simp
         with_reducible rfl
        rotate_left
        ·simp only [Act.put, List.setIfInBounds_toArray, List.set_cons_zero, List.set_cons_succ, i64_w, i32_w]
         rfl
        refine take_ (i := 4) (N := some 48) (v := ?_) (a' := ?_) #[true, true, true, true, true, false, false, false, false, false, false, false, false, false, false, false, false, false, false, false, false, false, false, false, false, false] rfl rfl (take_ofW HT_.out HW_.out (by kernel_rfl)) (fun _ _ _ h => h) (Or.inl ⟨by rfl, ?_⟩) hHeld ?_ ?_
        rotate_left
        ·rintro w' ⟨s0, s1, s2, s3, s4, s5, s6, s7, s8, s9, s10, s11, s12, s13, s14, s15⟩
         go_simp
         with_reducible rfl
        rotate_left
        ·simp only [Act.put, List.setIfInBounds_toArray, List.set_cons_zero, List.set_cons_succ, i64_w, i32_w]
         rfl
        refine pure_ (i := 5) (N := some 49) (v := ?_) (a' := ?_) #[true, true, true, true, true, true, false, false, false, false, false, false, false, false, false, false, false, false, false, false, false, false, false, false, false, false] rfl rfl (any_of HT_.out (by kernel_rfl)) (fun _ _ _ h => h) (Or.inl ⟨by rfl, ?_⟩) ?_ ?_
        rotate_left
        ·intro w'
         go_simp
         with_reducible rfl
        rotate_left
        ·simp only [Act.put, List.setIfInBounds_toArray, List.set_cons_zero, List.set_cons_succ, i64_w, i32_w]
         rfl
        refine pure_ (i := 6) (N := some 50) (v := ?_) (a' := ?_) #[true, true, true, true, true, true, true, false, false, false, false, false, false, false, false, false, false, false, false, false, false, false, false, false, false, false] rfl rfl (any_of HT_.out (by kernel_rfl)) (fun _ _ _ h => h) (Or.inl ⟨by rfl, ?_⟩) ?_ ?_
        rotate_left
        ·intro w'
         go_simp
         with_reducible rfl
        rotate_left
        ·simp only [Act.put, List.setIfInBounds_toArray, List.set_cons_zero, List.set_cons_succ, i64_w, i32_w]
         rfl
        refine pure_ (i := 7) (N := some 51) (v := ?_) (a' := ?_) #[true, true, true, true, true, true, true, true, false, false, false, false, false, false, false, false, false, false, false, false, false, false, false, false, false, false] rfl rfl (any_of HT_.out (by kernel_rfl)) (fun _ _ _ h => h) (Or.inl ⟨by rfl, ?_⟩) ?_ ?_
        rotate_left
        ·intro w'
         go_simp
         with_reducible rfl
        rotate_left
        ·simp only [Act.put, List.setIfInBounds_toArray, List.set_cons_zero, List.set_cons_succ, i64_w, i32_w]
         rfl
        refine pure_ (i := 8) (N := some 52) (v := ?_) (a' := ?_) #[true, true, true, true, true, true, true, true, true, false, false, false, false, false, false, false, false, false, false, false, false, false, false, false, false, false] rfl rfl (any_of HT_.out (by kernel_rfl)) (fun _ _ _ h => h) (Or.inl ⟨by rfl, ?_⟩) ?_ ?_
        rotate_left
        ·intro w'
         go_simp
         with_reducible rfl
        rotate_left
        ·simp only [Act.put, List.setIfInBounds_toArray, List.set_cons_zero, List.set_cons_succ, i64_w, i32_w]
         rfl
        refine pure_ (i := 10) (N := some 54) (v := ?_) (a' := ?_) #[true, true, true, true, true, true, true, true, true, false, true, false, false, false, false, false, false, false, false, false, false, false, false, false, false, false] rfl rfl (any_of HT_.out (by kernel_rfl)) (fun _ _ _ h => h) (Or.inl ⟨by rfl, ?_⟩) ?_ ?_
        rotate_left
        ·intro w'
         go_simp
         with_reducible rfl
        rotate_left
        ·simp only [Act.put, List.setIfInBounds_toArray, List.set_cons_zero, List.set_cons_succ, i64_w, i32_w]
         rfl
        refine pure_ (i := 11) (N := some 55) (v := ?_) (a' := ?_) #[true, true, true, true, true, true, true, true, true, false, true, true, false, false, false, false, false, false, false, false, false, false, false, false, false, false] rfl rfl (any_of HT_.out (by kernel_rfl)) (fun _ _ _ h => h) (Or.inl ⟨by rfl, ?_⟩) ?_ ?_
        rotate_left
        ·intro w'
         go_simp
         with_reducible rfl
        rotate_left
        ·simp only [Act.put, List.setIfInBounds_toArray, List.set_cons_zero, List.set_cons_succ, i64_w, i32_w]
         rfl
        refine pure_ (i := 12) (N := some 56) (v := ?_) (a' := ?_) #[true, true, true, true, true, true, true, true, true, false, true, true, true, false, false, false, false, false, false, false, false, false, false, false, false, false] rfl rfl (any_of HT_.out (by kernel_rfl)) (fun _ _ _ h => h) (Or.inl ⟨by rfl, ?_⟩) ?_ ?_
        rotate_left
        ·intro w'
         go_simp
         with_reducible rfl
        rotate_left
        ·simp only [Act.put, List.setIfInBounds_toArray, List.set_cons_zero, List.set_cons_succ, i64_w, i32_w]
         rfl
        refine pure_ (i := 13) (N := some 57) (v := ?_) (a' := ?_) #[true, true, true, true, true, true, true, true, true, false, true, true, true, true, false, false, false, false, false, false, false, false, false, false, false, false] rfl rfl (any_of HT_.out (by kernel_rfl)) (fun _ _ _ h => h) (Or.inl ⟨by rfl, ?_⟩) ?_ ?_
        rotate_left
        ·intro w'
         go_simp
         with_reducible rfl
        rotate_left
        ·simp only [Act.put, List.setIfInBounds_toArray, List.set_cons_zero, List.set_cons_succ, i64_w, i32_w]
         rfl
        refine pure_ (i := 15) (N := some 59) (v := ?_) (a' := ?_) #[true, true, true, true, true, true, true, true, true, false, true, true, true, true, false, true, false, false, false, false, false, false, false, false, false, false] rfl rfl (any_of HT_.out (by kernel_rfl)) (fun _ _ _ h => h) (Or.inl ⟨by rfl, ?_⟩) ?_ ?_
        rotate_left
        ·intro w'
         go_simp
         with_reducible rfl
        rotate_left
        ·simp only [Act.put, List.setIfInBounds_toArray, List.set_cons_zero, List.set_cons_succ, i64_w, i32_w]
         rfl
        refine pure_ (i := 18) (N := some 62) (v := ?_) (a' := ?_) #[true, true, true, true, true, true, true, true, true, false, true, true, true, true, false, true, false, false, true, false, false, false, false, false, false, false] rfl rfl (any_of HT_.out (by kernel_rfl)) (fun _ _ _ h => h) (Or.inl ⟨by rfl, ?_⟩) ?_ ?_
        rotate_left
        ·intro w'
         go_simp
         with_reducible rfl
        rotate_left
        ·simp only [Act.put, List.setIfInBounds_toArray, List.set_cons_zero, List.set_cons_succ, i64_w, i32_w]
         rfl
        refine pure_ (i := 19) (N := some 63) (v := ?_) (a' := ?_) #[true, true, true, true, true, true, true, true, true, false, true, true, true, true, false, true, false, false, true, true, false, false, false, false, false, false] rfl rfl (any_of HT_.out (by kernel_rfl)) (fun _ _ _ h => h) (Or.inl ⟨by rfl, ?_⟩) ?_ ?_
        rotate_left
        ·intro w'
         go_simp
         with_reducible rfl
        rotate_left
        ·simp only [Act.put, List.setIfInBounds_toArray, List.set_cons_zero, List.set_cons_succ, i64_w, i32_w]
         rfl
        refine pure_ (i := 20) (N := some 64) (v := ?_) (a' := ?_) #[true, true, true, true, true, true, true, true, true, false, true, true, true, true, false, true, false, false, true, true, true, false, false, false, false, false] rfl rfl (any_of HT_.out (by kernel_rfl)) (fun _ _ _ h => h) (Or.inl ⟨by rfl, ?_⟩) ?_ ?_
        rotate_left
        ·intro w'
         go_simp
         with_reducible rfl
        rotate_left
        ·simp only [Act.put, List.setIfInBounds_toArray, List.set_cons_zero, List.set_cons_succ, i64_w, i32_w]
         rfl
        refine pure_ (i := 21) (N := some 65) (v := ?_) (a' := ?_) #[true, true, true, true, true, true, true, true, true, false, true, true, true, true, false, true, false, false, true, true, true, true, false, false, false, false] rfl rfl (any_of HT_.out (by kernel_rfl)) (fun _ _ _ h => h) (Or.inl ⟨by rfl, ?_⟩) ?_ ?_
        rotate_left
        ·intro w'
         go_simp
         with_reducible rfl
        rotate_left
        ·simp only [Act.put, List.setIfInBounds_toArray, List.set_cons_zero, List.set_cons_succ, i64_w, i32_w]
         rfl
        refine take_ (i := 9) (N := some 53) (v := ?_) (a' := ?_) #[true, true, true, true, true, true, true, true, true, true, true, true, true, true, false, true, false, false, true, true, true, true, false, false, false, false] rfl rfl (take_ofW HT_.out HW_.out (by kernel_rfl)) (fun _ _ _ h => h) (Or.inl ⟨by rfl, ?_⟩) hHeld ?_ ?_
        rotate_left
        ·rintro w' ⟨s0, s1, s2, s3, s4, s5, s6, s7, s8, s9, s10, s11, s12, s13, s14, s15⟩
         go_simp
         with_reducible rfl
        rotate_left
        ·simp only [Act.put, List.setIfInBounds_toArray, List.set_cons_zero, List.set_cons_succ, i64_w, i32_w]
         rfl
        refine take_ (i := 14) (N := some 58) (v := ?_) (a' := ?_) #[true, true, true, true, true, true, true, true, true, true, true, true, true, true, true, true, false, false, true, true, true, true, false, false, false, false] rfl rfl (take_ofW HT_.out HW_.out (by kernel_rfl)) (fun _ _ _ h => h) (Or.inl ⟨by rfl, ?_⟩) hHeld ?_ ?_
        rotate_left
        ·rintro w' ⟨s0, s1, s2, s3, s4, s5, s6, s7, s8, s9, s10, s11, s12, s13, s14, s15⟩
         go_simp
         with_reducible rfl
        rotate_left
        ·simp only [Act.put, List.setIfInBounds_toArray, List.set_cons_zero, List.set_cons_succ, i64_w, i32_w]
         rfl
        refine take_ (i := 16) (N := some 60) (v := ?_) (a' := ?_) #[true, true, true, true, true, true, true, true, true, true, true, true, true, true, true, true, true, false, true, true, true, true, false, false, false, false] rfl rfl (take_ofW HT_.out HW_.out (by kernel_rfl)) (fun _ _ _ h => h) (Or.inl ⟨by rfl, ?_⟩) hHeld ?_ ?_
        rotate_left
        ·rintro w' ⟨s0, s1, s2, s3, s4, s5, s6, s7, s8, s9, s10, s11, s12, s13, s14, s15⟩
         go_simp
         with_reducible rfl
        rotate_left
        ·simp only [Act.put, List.setIfInBounds_toArray, List.set_cons_zero, List.set_cons_succ, i64_w, i32_w]
         rfl
        refine pure_ (i := 17) (N := some 61) (v := ?_) (a' := ?_) #[true, true, true, true, true, true, true, true, true, true, true, true, true, true, true, true, true, true, true, true, true, true, false, false, false, false] rfl rfl (any_of HT_.out (by kernel_rfl)) (fun _ _ _ h => h) (Or.inl ⟨by rfl, ?_⟩) ?_ ?_
        rotate_left
        ·intro w'
         go_simp
         with_reducible rfl
        rotate_left
        ·simp only [Act.put, List.setIfInBounds_toArray, List.set_cons_zero, List.set_cons_succ, i64_w, i32_w]
         rfl
        refine take_ (i := 22) (N := some 66) (v := ?_) (a' := ?_) #[true, true, true, true, true, true, true, true, true, true, true, true, true, true, true, true, true, true, true, true, true, true, true, false, false, false] rfl rfl (take_ofW HT_.out HW_.out (by kernel_rfl)) (fun _ _ _ h => h) (Or.inl ⟨by rfl, ?_⟩) hHeld ?_ ?_
        rotate_left
        ·rintro w' ⟨s0, s1, s2, s3, s4, s5, s6, s7, s8, s9, s10, s11, s12, s13, s14, s15⟩
         go_simp
         with_reducible rfl
        rotate_left
        ·simp only [Act.put, List.setIfInBounds_toArray, List.set_cons_zero, List.set_cons_succ, i64_w, i32_w]
         rfl
        refine pure_ (i := 23) (N := some 67) (v := ?_) (a' := ?_) #[true, true, true, true, true, true, true, true, true, true, true, true, true, true, true, true, true, true, true, true, true, true, true, true, false, false] rfl rfl (any_of HT_.out (by kernel_rfl)) (fun _ _ _ h => h) (Or.inl ⟨by rfl, ?_⟩) ?_ ?_
        rotate_left
        ·intro w'
         go_simp
         with_reducible rfl
        rotate_left
        ·simp only [Act.put, List.setIfInBounds_toArray, List.set_cons_zero, List.set_cons_succ, i64_w, i32_w]
         rfl
        refine one_ (i := 24) (N := some 68) #[true, true, true, true, true, true, true, true, true, true, true, true, true, true, true, true, true, true, true, true, true, true, true, true, true, false] rfl rfl (one_of HT_.out (by kernel_rfl)) (by decide) (fun K hK => ?_)
        refine goes_ Try.func62 (by kernel_rfl) rfl #[.agg #[.int .i64 ((rd_T63 x5_3 t192).f0), .int .i64 ((rd_T63 x5_3 t192).f1), .bool ((rd_T63 x5_3 t192).f2)], .int .i64 (wrap64 (((rd_T63 x5_3 (rd y188 x34_3)).f0) + ((rd_T54 l0_1 x24_2).f2))), .int .i64 (wrap64 (((rd_T63 x5_3 (rd y188 x34_3)).f1) + 1))] (by rfl) rfl rfl (by (try simp only [List.map_toArray, List.map_cons, List.map_nil]); first | done | rfl | (simp only [List.length_drop, List.length_take]; rfl)) ?_
        with_reducible refine (impl_reach_better.calls ((rd_T63 x5_3 t192).f0) ((rd_T63 x5_3 t192).f1) ((rd_T63 x5_3 t192).f2) (wrap64 (((rd_T63 x5_3 (rd y188 x34_3)).f0) + ((rd_T54 l0_1 x24_2).f2))) (wrap64 (((rd_T63 x5_3 (rd y188 x34_3)).f1) + 1)) false _ A35.out).mono ?_
        rintro e w49 ⟨rfl, hb⟩
        have HS4_ := (hb.cell (World.block_lt_of_cell? _ _ (hHeld.2.2.2.2.1))).trans (hHeld.2.2.2.2.1)
        have HS5_ := (hb.cell (World.block_lt_of_cell? _ _ (hHeld.2.2.2.2.2.1))).trans (hHeld.2.2.2.2.2.1)
        have HS6_ := (hb.cell (World.block_lt_of_cell? _ _ (hHeld.2.2.2.2.2.2.1))).trans (hHeld.2.2.2.2.2.2.1)
        have HS7_ := (hb.cell (World.block_lt_of_cell? _ _ (hHeld.2.2.2.2.2.2.2.1))).trans (hHeld.2.2.2.2.2.2.2.1)
        have HS8_ := (hb.cell (World.block_lt_of_cell? _ _ (hHeld.2.2.2.2.2.2.2.2.1))).trans (hHeld.2.2.2.2.2.2.2.2.1)
        have HS9_ := (hb.cell (World.block_lt_of_cell? _ _ (hHeld.2.2.2.2.2.2.2.2.2.1))).trans (hHeld.2.2.2.2.2.2.2.2.2.1)
        have HS10_ := (hb.cell (World.block_lt_of_cell? _ _ (hHeld.2.2.2.2.2.2.2.2.2.2.1))).trans (hHeld.2.2.2.2.2.2.2.2.2.2.1)
        have HS11_ := (hb.cell (World.block_lt_of_cell? _ _ (hHeld.2.2.2.2.2.2.2.2.2.2.2.1))).trans (hHeld.2.2.2.2.2.2.2.2.2.2.2.1)
        have HS12_ := (hb.cell (World.block_lt_of_cell? _ _ (hHeld.2.2.2.2.2.2.2.2.2.2.2.2.1))).trans (hHeld.2.2.2.2.2.2.2.2.2.2.2.2.1)
        have HS13_ := (hb.cell (World.block_lt_of_cell? _ _ (hHeld.2.2.2.2.2.2.2.2.2.2.2.2.2.1))).trans (hHeld.2.2.2.2.2.2.2.2.2.2.2.2.2.1)
        have HS14_ := (hb.cell (World.block_lt_of_cell? _ _ (hHeld.2.2.2.2.2.2.2.2.2.2.2.2.2.2.1))).trans (hHeld.2.2.2.2.2.2.2.2.2.2.2.2.2.2.1)
        have HS15_ := (hb.cell (World.block_lt_of_cell? _ _ (hHeld.2.2.2.2.2.2.2.2.2.2.2.2.2.2.2))).trans (hHeld.2.2.2.2.2.2.2.2.2.2.2.2.2.2.2)
        refine ⟨_, rfl, ?_⟩
        replace HO_5 := Aside0.mk (Kd.R_below HO_5.out hb)
        replace HO_32 := Aside0.mk (Kd.R_below HO_32.out hb)
        replace BK181 := Aside0.mk (blk_below BK181.out hb)
        replace BK187 := Aside0.mk (blk_below BK187.out hb)
        replace HB := Aside0.mk (below_step HB.out hb)
        (try clear hb)
        (try clear hb2)
        (try clear hk)
        (try clear hi)
        refine hK.out _ _ ⟨(blk_cell BK187.out 0).trans rfl, (blk_cell BK187.out 1).trans rfl, (blk_cell BK187.out 2).trans rfl, (blk_cell BK187.out 3).trans rfl, HS4_, HS5_, HS6_, HS7_, HS8_, HS9_, HS10_, HS11_, HS12_, HS13_, HS14_, HS15_⟩ (fun hHeld => ?_)
        clear hK K
        refine norm_ (a' := ?_) ?_ ?_
        rotate_left
        ·show Act.put _ (some 68) _ = _
         simp only [Act.put, List.setIfInBounds_toArray, List.set_cons_zero, List.set_cons_succ, i64_w, i32_w]
         rfl
        refine pure_ (i := 25) (N := some 69) (v := ?_) (a' := ?_) #[true, true, true, true, true, true, true, true, true, true, true, true, true, true, true, true, true, true, true, true, true, true, true, true, true, true] rfl rfl (any_of HT_.out (by kernel_rfl)) (fun _ _ _ h => h) (Or.inl ⟨by rfl, ?_⟩) ?_ ?_
        rotate_left
        ·intro w'
         go_simp
         with_reducible rfl
        rotate_left
        ·simp only [Act.put, List.setIfInBounds_toArray, List.set_cons_zero, List.set_cons_succ, i64_w, i32_w]
         rfl
        refine done_ (done_of HT_.out (by kernel_rfl)) ?_
        try go_wp2
        (try simp only [← hl5_3])
        go_roundg k3
        case measure => have := HK1.out; have := HK2.out; have := HK3.out; omega
        case rel => exact ⟨(x5_3), (x6_3), (wrap64 (x34_3 + 1)), (by first | rfl | (simp; done) | (simp [*]; done)), (by first | rfl | (simp; done) | (simp [*]; done)), H', ⟨by have := HK1.out; have := HK2.out; have := HK3.out; omega⟩, ⟨by (try simp only [hl5_1]); (try simp only [hl5_2]); (try simp only [hl5_3]); (with_reducible repeat (first | apply Kd.R_alloc | apply Kd.R_drewN | apply Kd.R_drew)); exact HO_5.out⟩, ⟨by (try simp only [hl5_1]); (try simp only [hl5_2]); (try simp only [hl5_3]); (with_reducible repeat (first | apply Kd.R_alloc | apply Kd.R_drewN | apply Kd.R_drew)); exact HO_32.out⟩, ⟨by (try simp only [hl5_1]); (try simp only [hl5_2]); (try simp only [hl5_3]); (with_reducible repeat (first | refine blk_drewN ?_ _ | refine blk_drew ?_ | refine blk_alloc ?_ _)); exact BK181.out⟩, ⟨by (try simp only [hl5_1]); (try simp only [hl5_2]); (try simp only [hl5_3]); (with_reducible repeat (first | refine blk_drewN ?_ _ | refine blk_drew ?_ | refine blk_alloc ?_ _)); exact BK187.out⟩, ⟨by repeat (first | (with_reducible first | exact HB.out | apply below_alloc | apply pw_below_drewN | apply below_drew1 | refine below_set ?_ GE181.out | refine below_set ?_ GE187.out) | exact HB.out)⟩⟩
       subst c36
       have H1 : (impl_Net_distances.l2 k3 (x5_3.set (t192 : Int).toNat (⟨wrap64 (((rd_T63 x5_3 (rd y188 x34_3)).f0) + ((rd_T54 l0_1 x24_2).f2)), wrap64 (((rd_T63 x5_3 (rd y188 x34_3)).f1) + 1), true⟩ : S63)) true l0_1 (l0_1.length : Int) x24_2 y188 (y188.length : Int) (wrap64 (x34_3 + 1)) a0_0 l0_1 ((rd_T54 l0_1 x24_2).f0) ((rd_T54 l0_1 x24_2).f1) ((rd_T54 l0_1 x24_2).f2) ((rd_T54 l0_1 x24_2).f3)) = some r := by (first | (rw [if_pos rfl] at H; exact H) | rfl)
       clear H
       have H := H1
       clear H1
       obtain ⟨y201, hy201⟩ : ∃ y_ : List (S63), y_ = (x5_3.set (t192 : Int).toNat (⟨wrap64 (((rd_T63 x5_3 (rd y188 x34_3)).f0) + ((rd_T54 l0_1 x24_2).f2)), wrap64 (((rd_T63 x5_3 (rd y188 x34_3)).f1) + 1), true⟩ : S63)) := ⟨_, rfl⟩
       replace H : (impl_Net_distances.l2 k3 y201 true l0_1 (l0_1.length : Int) x24_2 y188 (y188.length : Int) (wrap64 (x34_3 + 1)) a0_0 l0_1 ((rd_T54 l0_1 x24_2).f0) ((rd_T54 l0_1 x24_2).f1) ((rd_T54 l0_1 x24_2).f2) ((rd_T54 l0_1 x24_2).f3)) = some r := by first | (rw [hy201]; with_reducible exact H) | (have H2_ := (Option.bind_some _ _).symm.trans H; rw [hy201]; with_reducible exact H2_) | (have H2_ := (Option.bind_some _ _).symm.trans H; with_reducible exact H2_) | with_reducible exact H | (rw [hy201]; exact H) | exact H
       have Ny201 := Aside0.mk hy201
       clear hy201
       have H' := Aside0.mk H
       clear H
       have p191 : 0 ≤ (x34_3 : Int) := of_decide_eq_true (by first | (with_reducible assumption) | assumption)
       have q191 : x34_3 < (y188.length : Int) := of_decide_eq_true (by first | (with_reducible assumption) | assumption)
       obtain ⟨ad191, e191, hx191_0⟩ := Kd.at_int (Kd.R_reads' HO_32.out).2.2 x34_3 p191 q191
       cases e191
       replace p191 := eq_true p191
       replace q191 := eq_true q191
       have hnb38 := NB187_181.out
       have hnc38 := NB181_187.out
       have hcz39_0 : wr.cell? ⟨gb187, 0, none⟩ = some (.int .i64 ((rd_T54 l0_1 x24_2).f0)) := (blk_cell BK187.out 0).trans rfl
       have hcz39_1 : wr.cell? ⟨gb187, 1, none⟩ = some (.int .i64 ((rd_T54 l0_1 x24_2).f1)) := (blk_cell BK187.out 1).trans rfl
       have hcz39_2 : wr.cell? ⟨gb187, 2, none⟩ = some (.int .i64 ((rd_T54 l0_1 x24_2).f2)) := (blk_cell BK187.out 2).trans rfl
       have hcz39_3 : wr.cell? ⟨gb187, 3, none⟩ = some (.int .i64 ((rd_T54 l0_1 x24_2).f3)) := (blk_cell BK187.out 3).trans rfl
       have hfz39_0 := blk_frozen BK187.out 0
       have hfz39_1 := blk_frozen BK187.out 1
       have hfz39_2 := blk_frozen BK187.out 2
       have hfz39_3 := blk_frozen BK187.out 3
       try go_wp2_with (first | ((with_reducible refine gate_callee (f := 48) rfl ?_); refine goesL_ (some 41) rfl rfl Try.func48 (by kernel_rfl) rfl #[.agg #[.int .i64 ((rd_T54 l0_1 x24_2).f0), .int .i64 ((rd_T54 l0_1 x24_2).f1), .int .i64 ((rd_T54 l0_1 x24_2).f2), .int .i64 ((rd_T54 l0_1 x24_2).f3)], .int .i64 (rd y188 x34_3)] rfl (by (try simp only [List.map_toArray, List.map_cons, List.map_nil]); first | done | rfl | (simp only [List.length_drop, List.length_take]; rfl)) ?_; (with_reducible refine (impl_Edge_other.calls ((rd_T54 l0_1 x24_2).f0) ((rd_T54 l0_1 x24_2).f1) ((rd_T54 l0_1 x24_2).f2) ((rd_T54 l0_1 x24_2).f3) (rd y188 x34_3) t192 t193 _ A28.out).mono ?_); rintro e w40 ⟨rfl, hb⟩; refine ⟨_, rfl, ?_⟩; have n0_ := Aside0.mk (Kd.R_below HO_5.out hb); have n1_ := Aside0.mk (Kd.R_below HO_32.out hb); have n2_ := Aside0.mk (blk_below BK181.out hb); have n3_ := Aside0.mk (blk_below BK187.out hb); have n4_ := Aside0.mk (below_step HB.out hb); clear HO_5; clear HO_32; clear BK181; clear BK187; clear HB; have HO_5 := n0_; have HO_32 := n1_; have BK181 := n2_; have BK187 := n3_; have HB := n4_; clear n0_ n1_ n2_ n3_ n4_; (try clear hb); (try clear hb2); (try clear hk); (try clear hi)))
       replace HO_5 := Aside0.mk (Kd.R_drew HO_5.out)
       replace HO_32 := Aside0.mk (Kd.R_drew HO_32.out)
       replace BK181 := Aside0.mk (blk_drew BK181.out)
       replace BK187 := Aside0.mk (blk_drew BK187.out)
       replace HB := Aside0.mk (below_drew1 HB.out)
       have p194 : 0 ≤ ((rd y188 x34_3) : Int) := of_decide_eq_true (by first | (with_reducible assumption) | assumption)
       have q194 : (rd y188 x34_3) < (x5_3.length : Int) := of_decide_eq_true (by first | (with_reducible assumption) | assumption)
       obtain ⟨ad194, e194, hx194_0, hx194_1, hx194_2⟩ := at_T63 (Kd.R_reads' HO_5.out).2.2 (rd y188 x34_3) p194 q194
       (try rw [← Nbq31.out] at hx194_2)
       obtain rfl : (⟨go7, 0, none⟩ : Addr) = ad194 := (by injection e194)
       (first | simp only [add_plain] at hx194_0 | simp only [add_at] at hx194_0 | simp only [Addr.add, Nat.zero_add] at hx194_0 | skip)
       (first | simp only [add_plain] at hx194_1 | simp only [add_at] at hx194_1 | simp only [Addr.add, Nat.zero_add] at hx194_1 | skip)
       (first | simp only [add_plain] at hx194_2 | simp only [add_at] at hx194_2 | simp only [Addr.add, Nat.zero_add] at hx194_2 | skip)
       replace p194 := eq_true p194
       replace q194 := eq_true q194
       have p195 : 0 ≤ (t192 : Int) := of_decide_eq_true (by first | (with_reducible assumption) | assumption)
       have q195 : t192 < (x5_3.length : Int) := of_decide_eq_true (by first | (with_reducible assumption) | assumption)
       obtain ⟨ad195, e195, hx195_0, hx195_1, hx195_2⟩ := at_T63 (Kd.R_reads' HO_5.out).2.2 t192 p195 q195
       (try rw [← Nbq31.out] at hx195_2)
       obtain rfl : (⟨go7, 0, none⟩ : Addr) = ad195 := (by injection e195)
       (first | simp only [add_plain] at hx195_0 | simp only [add_at] at hx195_0 | simp only [Addr.add, Nat.zero_add] at hx195_0 | skip)
       (first | simp only [add_plain] at hx195_1 | simp only [add_at] at hx195_1 | simp only [Addr.add, Nat.zero_add] at hx195_1 | skip)
       (first | simp only [add_plain] at hx195_2 | simp only [add_at] at hx195_2 | simp only [Addr.add, Nat.zero_add] at hx195_2 | skip)
       replace p195 := eq_true p195
       replace q195 := eq_true q195
       have p196 : 0 ≤ ((rd y188 x34_3) : Int) := of_decide_eq_true (by first | (with_reducible assumption) | assumption)
       have q196 : (rd y188 x34_3) < (x5_3.length : Int) := of_decide_eq_true (by first | (with_reducible assumption) | assumption)
       obtain ⟨ad196, e196, hx196_0, hx196_1, hx196_2⟩ := at_T63 (Kd.R_reads' HO_5.out).2.2 (rd y188 x34_3) p196 q196
       (try rw [← Nbq31.out] at hx196_2)
       obtain rfl : (⟨go7, 0, none⟩ : Addr) = ad196 := (by injection e196)
       (first | simp only [add_plain] at hx196_0 | simp only [add_at] at hx196_0 | simp only [Addr.add, Nat.zero_add] at hx196_0 | skip)
       (first | simp only [add_plain] at hx196_1 | simp only [add_at] at hx196_1 | simp only [Addr.add, Nat.zero_add] at hx196_1 | skip)
       (first | simp only [add_plain] at hx196_2 | simp only [add_at] at hx196_2 | simp only [Addr.add, Nat.zero_add] at hx196_2 | skip)
       replace p196 := eq_true p196
       replace q196 := eq_true q196
       have p197 : 0 ≤ ((rd y188 x34_3) : Int) := of_decide_eq_true (by first | (with_reducible assumption) | assumption)
       have q197 : (rd y188 x34_3) < (x5_3.length : Int) := of_decide_eq_true (by first | (with_reducible assumption) | assumption)
       obtain ⟨ad197, e197, hx197_0, hx197_1, hx197_2⟩ := at_T63 (Kd.R_reads' HO_5.out).2.2 (rd y188 x34_3) p197 q197
       (try rw [← Nbq31.out] at hx197_2)
       obtain rfl : (⟨go7, 0, none⟩ : Addr) = ad197 := (by injection e197)
       (first | simp only [add_plain] at hx197_0 | simp only [add_at] at hx197_0 | simp only [Addr.add, Nat.zero_add] at hx197_0 | skip)
       (first | simp only [add_plain] at hx197_1 | simp only [add_at] at hx197_1 | simp only [Addr.add, Nat.zero_add] at hx197_1 | skip)
       (first | simp only [add_plain] at hx197_2 | simp only [add_at] at hx197_2 | simp only [Addr.add, Nat.zero_add] at hx197_2 | skip)
       replace p197 := eq_true p197
       replace q197 := eq_true q197
       refine start_ (n := 26) (S := fun w' => w'.cell? ⟨gb187, 0, none⟩ = some (.int .i64 ((rd_T54 l0_1 x24_2).f0)) ∧ w'.cell? ⟨gb187, 1, none⟩ = some (.int .i64 ((rd_T54 l0_1 x24_2).f1)) ∧ w'.cell? ⟨gb187, 2, none⟩ = some (.int .i64 ((rd_T54 l0_1 x24_2).f2)) ∧ w'.cell? ⟨gb187, 3, none⟩ = some (.int .i64 ((rd_T54 l0_1 x24_2).f3)) ∧ w'.cell? ⟨go7, ((rd y188 x34_3)).toNat * 3, none⟩ = some (.int .i64 ((rd_T63 x5_3 (rd y188 x34_3)).f0)) ∧ w'.cell? ⟨go7, ((rd y188 x34_3)).toNat * 3 + 1, none⟩ = some (.int .i64 ((rd_T63 x5_3 (rd y188 x34_3)).f1)) ∧ w'.cell? ⟨go7, ((rd y188 x34_3)).toNat * 3 + 2, none⟩ = some (.bool true) ∧ w'.cell? ⟨go7, (t192).toNat * 3, none⟩ = some (.int .i64 ((rd_T63 x5_3 t192).f0)) ∧ w'.cell? ⟨go7, (t192).toNat * 3 + 1, none⟩ = some (.int .i64 ((rd_T63 x5_3 t192).f1)) ∧ w'.cell? ⟨go7, (t192).toNat * 3 + 2, none⟩ = some (.bool ((rd_T63 x5_3 t192).f2)) ∧ w'.cell? ⟨go7, ((rd y188 x34_3)).toNat * 3, none⟩ = some (.int .i64 ((rd_T63 x5_3 (rd y188 x34_3)).f0)) ∧ w'.cell? ⟨go7, ((rd y188 x34_3)).toNat * 3 + 1, none⟩ = some (.int .i64 ((rd_T63 x5_3 (rd y188 x34_3)).f1)) ∧ w'.cell? ⟨go7, ((rd y188 x34_3)).toNat * 3 + 2, none⟩ = some (.bool (true)) ∧ w'.cell? ⟨go7, ((rd y188 x34_3)).toNat * 3, none⟩ = some (.int .i64 ((rd_T63 x5_3 (rd y188 x34_3)).f0)) ∧ w'.cell? ⟨go7, ((rd y188 x34_3)).toNat * 3 + 1, none⟩ = some (.int .i64 ((rd_T63 x5_3 (rd y188 x34_3)).f1)) ∧ w'.cell? ⟨go7, ((rd y188 x34_3)).toNat * 3 + 2, none⟩ = some (.bool (true))) (ds := []) #[false, false, false, false, false, false, false, false, false, false, false, false, false, false, false, false, false, false, false, false, false, false, false, false, false, false] (by kernel_rfl) rfl rfl ⟨(blk_cell BK187.out 0).trans rfl, (blk_cell BK187.out 1).trans rfl, (blk_cell BK187.out 2).trans rfl, (blk_cell BK187.out 3).trans rfl, hx194_0, hx194_1, hx194_2, hx195_0, hx195_1, hx195_2, hx196_0, hx196_1, hx196_2, hx197_0, hx197_1, hx197_2⟩ (fun hHeld => ?_); refine with_tabW impl_Net_distances.tab13 impl_Net_distances.bits13 (fun HT_ HW_ => ?_)
       generalize w40.drew = w41 at HO_5 HO_32 BK181 BK187 HB hx194_0 hx194_1 hx194_2 hx195_0 hx195_1 hx195_2 hx196_0 hx196_1 hx196_2 hx197_0 hx197_1 hx197_2 hHeld ⊢
       refine pure_ (i := 0) (N := some 44) (v := ?_) (a' := ?_) #[true, false, false, false, false, false, false, false, false, false, false, false, false, false, false, false, false, false, false, false, false, false, false, false, false, false] rfl rfl (any_of HT_.out (by kernel_rfl)) (fun _ _ _ h => h) (Or.inl ⟨by rfl, ?_⟩) ?_ ?_
       rotate_left
       ·intro w'
        go_simp
        with_reducible rfl
       rotate_left
       ·simp only [Act.put, List.setIfInBounds_toArray, List.set_cons_zero, List.set_cons_succ, i64_w, i32_w]
        rfl
       refine pure_ (i := 1) (N := some 45) (v := ?_) (a' := ?_) #[true, true, false, false, false, false, false, false, false, false, false, false, false, false, false, false, false, false, false, false, false, false, false, false, false, false] rfl rfl (any_of HT_.out (by kernel_rfl)) (fun _ _ _ h => h) (Or.inl ⟨by rfl, ?_⟩) ?_ ?_
       rotate_left
       ·intro w'
        go_simp
        with_reducible rfl
       rotate_left
       ·simp only [Act.put, List.setIfInBounds_toArray, List.set_cons_zero, List.set_cons_succ, i64_w, i32_w]
        rfl
       refine pure_ (i := 2) (N := some 46) (v := ?_) (a' := ?_) #[true, true, true, false, false, false, false, false, false, false, false, false, false, false, false, false, false, false, false, false, false, false, false, false, false, false] rfl rfl (any_of HT_.out (by kernel_rfl)) (fun _ _ _ h => h) (Or.inl ⟨by rfl, ?_⟩) ?_ ?_
       rotate_left
       ·intro w'
        go_simp
        with_reducible rfl
       rotate_left
       ·simp only [Act.put, List.setIfInBounds_toArray, List.set_cons_zero, List.set_cons_succ, i64_w, i32_w]
        rfl
       refine pure_ (i := 3) (N := some 47) (v := ?_) (a' := ?_) #[true, true, true, true, false, false, false, false, false, false, false, false, false, false, false, false, false, false, false, false, false, false, false, false, false, false] rfl rfl (any_of HT_.out (by kernel_rfl)) (fun _ _ _ h => h) (Or.inl ⟨by rfl, ?_⟩) ?_ ?_
       rotate_left
       ·intro w'
        go_simp
        with_reducible rfl
       rotate_left
       ·simp only [Act.put, List.setIfInBounds_toArray, List.set_cons_zero, List.set_cons_succ, i64_w, i32_w]
        rfl
       refine take_ (i := 4) (N := some 48) (v := ?_) (a' := ?_) #[true, true, true, true, true, false, false, false, false, false, false, false, false, false, false, false, false, false, false, false, false, false, false, false, false, false] rfl rfl (take_ofW HT_.out HW_.out (by kernel_rfl)) (fun _ _ _ h => h) (Or.inl ⟨by rfl, ?_⟩) hHeld ?_ ?_
       rotate_left
       ·rintro w' ⟨s0, s1, s2, s3, s4, s5, s6, s7, s8, s9, s10, s11, s12, s13, s14, s15⟩
        go_simp
        with_reducible rfl
       rotate_left
       ·simp only [Act.put, List.setIfInBounds_toArray, List.set_cons_zero, List.set_cons_succ, i64_w, i32_w]
        rfl
       refine pure_ (i := 5) (N := some 49) (v := ?_) (a' := ?_) #[true, true, true, true, true, true, false, false, false, false, false, false, false, false, false, false, false, false, false, false, false, false, false, false, false, false] rfl rfl (any_of HT_.out (by kernel_rfl)) (fun _ _ _ h => h) (Or.inl ⟨by rfl, ?_⟩) ?_ ?_
       rotate_left
       ·intro w'
        go_simp
        with_reducible rfl
       rotate_left
       ·simp only [Act.put, List.setIfInBounds_toArray, List.set_cons_zero, List.set_cons_succ, i64_w, i32_w]
        rfl
       refine pure_ (i := 6) (N := some 50) (v := ?_) (a' := ?_) #[true, true, true, true, true, true, true, false, false, false, false, false, false, false, false, false, false, false, false, false, false, false, false, false, false, false] rfl rfl (any_of HT_.out (by kernel_rfl)) (fun _ _ _ h => h) (Or.inl ⟨by rfl, ?_⟩) ?_ ?_
       rotate_left
       ·intro w'
        go_simp
        with_reducible rfl
       rotate_left
       ·simp only [Act.put, List.setIfInBounds_toArray, List.set_cons_zero, List.set_cons_succ, i64_w, i32_w]
        rfl
       refine pure_ (i := 7) (N := some 51) (v := ?_) (a' := ?_) #[true, true, true, true, true, true, true, true, false, false, false, false, false, false, false, false, false, false, false, false, false, false, false, false, false, false] rfl rfl (any_of HT_.out (by kernel_rfl)) (fun _ _ _ h => h) (Or.inl ⟨by rfl, ?_⟩) ?_ ?_
       rotate_left
       ·intro w'
        go_simp
        with_reducible rfl
       rotate_left
       ·simp only [Act.put, List.setIfInBounds_toArray, List.set_cons_zero, List.set_cons_succ, i64_w, i32_w]
        rfl
       refine pure_ (i := 8) (N := some 52) (v := ?_) (a' := ?_) #[true, true, true, true, true, true, true, true, true, false, false, false, false, false, false, false, false, false, false, false, false, false, false, false, false, false] rfl rfl (any_of HT_.out (by kernel_rfl)) (fun _ _ _ h => h) (Or.inl ⟨by rfl, ?_⟩) ?_ ?_
       rotate_left
       ·intro w'
        go_simp
        with_reducible rfl
       rotate_left
       ·simp only [Act.put, List.setIfInBounds_toArray, List.set_cons_zero, List.set_cons_succ, i64_w, i32_w]
        rfl
       refine pure_ (i := 10) (N := some 54) (v := ?_) (a' := ?_) #[true, true, true, true, true, true, true, true, true, false, true, false, false, false, false, false, false, false, false, false, false, false, false, false, false, false] rfl rfl (any_of HT_.out (by kernel_rfl)) (fun _ _ _ h => h) (Or.inl ⟨by rfl, ?_⟩) ?_ ?_
       rotate_left
       ·intro w'
        go_simp
        with_reducible rfl
       rotate_left
       ·simp only [Act.put, List.setIfInBounds_toArray, List.set_cons_zero, List.set_cons_succ, i64_w, i32_w]
        rfl
       refine pure_ (i := 11) (N := some 55) (v := ?_) (a' := ?_) #[true, true, true, true, true, true, true, true, true, false, true, true, false, false, false, false, false, false, false, false, false, false, false, false, false, false] rfl rfl (any_of HT_.out (by kernel_rfl)) (fun _ _ _ h => h) (Or.inl ⟨by rfl, ?_⟩) ?_ ?_
       rotate_left
       ·intro w'
        go_simp
        with_reducible rfl
       rotate_left
       ·simp only [Act.put, List.setIfInBounds_toArray, List.set_cons_zero, List.set_cons_succ, i64_w, i32_w]
        rfl
       refine pure_ (i := 12) (N := some 56) (v := ?_) (a' := ?_) #[true, true, true, true, true, true, true, true, true, false, true, true, true, false, false, false, false, false, false, false, false, false, false, false, false, false] rfl rfl (any_of HT_.out (by kernel_rfl)) (fun _ _ _ h => h) (Or.inl ⟨by rfl, ?_⟩) ?_ ?_
       rotate_left
       ·intro w'
        go_simp
        with_reducible rfl
       rotate_left
       ·simp only [Act.put, List.setIfInBounds_toArray, List.set_cons_zero, List.set_cons_succ, i64_w, i32_w]
        rfl
       refine pure_ (i := 13) (N := some 57) (v := ?_) (a' := ?_) #[true, true, true, true, true, true, true, true, true, false, true, true, true, true, false, false, false, false, false, false, false, false, false, false, false, false] rfl rfl (any_of HT_.out (by kernel_rfl)) (fun _ _ _ h => h) (Or.inl ⟨by rfl, ?_⟩) ?_ ?_
       rotate_left
       ·intro w'
        go_simp
        with_reducible rfl
       rotate_left
       ·simp only [Act.put, List.setIfInBounds_toArray, List.set_cons_zero, List.set_cons_succ, i64_w, i32_w]
        rfl
       refine pure_ (i := 15) (N := some 59) (v := ?_) (a' := ?_) #[true, true, true, true, true, true, true, true, true, false, true, true, true, true, false, true, false, false, false, false, false, false, false, false, false, false] rfl rfl (any_of HT_.out (by kernel_rfl)) (fun _ _ _ h => h) (Or.inl ⟨by rfl, ?_⟩) ?_ ?_
       rotate_left
       ·intro w'
        go_simp
        with_reducible rfl
       rotate_left
       ·simp only [Act.put, List.setIfInBounds_toArray, List.set_cons_zero, List.set_cons_succ, i64_w, i32_w]
        rfl
       refine pure_ (i := 18) (N := some 62) (v := ?_) (a' := ?_) #[true, true, true, true, true, true, true, true, true, false, true, true, true, true, false, true, false, false, true, false, false, false, false, false, false, false] rfl rfl (any_of HT_.out (by kernel_rfl)) (fun _ _ _ h => h) (Or.inl ⟨by rfl, ?_⟩) ?_ ?_
       rotate_left
       ·intro w'
        go_simp
        with_reducible rfl
       rotate_left
       ·simp only [Act.put, List.setIfInBounds_toArray, List.set_cons_zero, List.set_cons_succ, i64_w, i32_w]
        rfl
       refine pure_ (i := 19) (N := some 63) (v := ?_) (a' := ?_) #[true, true, true, true, true, true, true, true, true, false, true, true, true, true, false, true, false, false, true, true, false, false, false, false, false, false] rfl rfl (any_of HT_.out (by kernel_rfl)) (fun _ _ _ h => h) (Or.inl ⟨by rfl, ?_⟩) ?_ ?_
       rotate_left
       ·intro w'
        go_simp
        with_reducible rfl
       rotate_left
       ·simp only [Act.put, List.setIfInBounds_toArray, List.set_cons_zero, List.set_cons_succ, i64_w, i32_w]
        rfl
       refine pure_ (i := 20) (N := some 64) (v := ?_) (a' := ?_) #[true, true, true, true, true, true, true, true, true, false, true, true, true, true, false, true, false, false, true, true, true, false, false, false, false, false] rfl rfl (any_of HT_.out (by kernel_rfl)) (fun _ _ _ h => h) (Or.inl ⟨by rfl, ?_⟩) ?_ ?_
       rotate_left
       ·intro w'
        go_simp
        with_reducible rfl
       rotate_left
       ·simp only [Act.put, List.setIfInBounds_toArray, List.set_cons_zero, List.set_cons_succ, i64_w, i32_w]
        rfl
       refine pure_ (i := 21) (N := some 65) (v := ?_) (a' := ?_) #[true, true, true, true, true, true, true, true, true, false, true, true, true, true, false, true, false, false, true, true, true, true, false, false, false, false] rfl rfl (any_of HT_.out (by kernel_rfl)) (fun _ _ _ h => h) (Or.inl ⟨by rfl, ?_⟩) ?_ ?_
       rotate_left
       ·intro w'
        go_simp
        with_reducible rfl
       rotate_left
       ·simp only [Act.put, List.setIfInBounds_toArray, List.set_cons_zero, List.set_cons_succ, i64_w, i32_w]
        rfl
       refine take_ (i := 9) (N := some 53) (v := ?_) (a' := ?_) #[true, true, true, true, true, true, true, true, true, true, true, true, true, true, false, true, false, false, true, true, true, true, false, false, false, false] rfl rfl (take_ofW HT_.out HW_.out (by kernel_rfl)) (fun _ _ _ h => h) (Or.inl ⟨by rfl, ?_⟩) hHeld ?_ ?_
       rotate_left
       ·rintro w' ⟨s0, s1, s2, s3, s4, s5, s6, s7, s8, s9, s10, s11, s12, s13, s14, s15⟩
        go_simp
        with_reducible rfl
       rotate_left
       ·simp only [Act.put, List.setIfInBounds_toArray, List.set_cons_zero, List.set_cons_succ, i64_w, i32_w]
        rfl
       refine take_ (i := 14) (N := some 58) (v := ?_) (a' := ?_) #[true, true, true, true, true, true, true, true, true, true, true, true, true, true, true, true, false, false, true, true, true, true, false, false, false, false] rfl rfl (take_ofW HT_.out HW_.out (by kernel_rfl)) (fun _ _ _ h => h) (Or.inl ⟨by rfl, ?_⟩) hHeld ?_ ?_
       rotate_left
       ·rintro w' ⟨s0, s1, s2, s3, s4, s5, s6, s7, s8, s9, s10, s11, s12, s13, s14, s15⟩
        go_simp
        with_reducible rfl
       rotate_left
       ·simp only [Act.put, List.setIfInBounds_toArray, List.set_cons_zero, List.set_cons_succ, i64_w, i32_w]
        rfl
       refine take_ (i := 16) (N := some 60) (v := ?_) (a' := ?_) #[true, true, true, true, true, true, true, true, true, true, true, true, true, true, true, true, true, false, true, true, true, true, false, false, false, false] rfl rfl (take_ofW HT_.out HW_.out (by kernel_rfl)) (fun _ _ _ h => h) (Or.inl ⟨by rfl, ?_⟩) hHeld ?_ ?_
       rotate_left
       ·rintro w' ⟨s0, s1, s2, s3, s4, s5, s6, s7, s8, s9, s10, s11, s12, s13, s14, s15⟩
        go_simp
        with_reducible rfl
       rotate_left
       ·simp only [Act.put, List.setIfInBounds_toArray, List.set_cons_zero, List.set_cons_succ, i64_w, i32_w]
        rfl
       refine pure_ (i := 17) (N := some 61) (v := ?_) (a' := ?_) #[true, true, true, true, true, true, true, true, true, true, true, true, true, true, true, true, true, true, true, true, true, true, false, false, false, false] rfl rfl (any_of HT_.out (by kernel_rfl)) (fun _ _ _ h => h) (Or.inl ⟨by rfl, ?_⟩) ?_ ?_
       rotate_left
       ·intro w'
        go_simp
        with_reducible rfl
       rotate_left
       ·simp only [Act.put, List.setIfInBounds_toArray, List.set_cons_zero, List.set_cons_succ, i64_w, i32_w]
        rfl
       refine take_ (i := 22) (N := some 66) (v := ?_) (a' := ?_) #[true, true, true, true, true, true, true, true, true, true, true, true, true, true, true, true, true, true, true, true, true, true, true, false, false, false] rfl rfl (take_ofW HT_.out HW_.out (by kernel_rfl)) (fun _ _ _ h => h) (Or.inl ⟨by rfl, ?_⟩) hHeld ?_ ?_
       rotate_left
       ·rintro w' ⟨s0, s1, s2, s3, s4, s5, s6, s7, s8, s9, s10, s11, s12, s13, s14, s15⟩
        go_simp
        with_reducible rfl
       rotate_left
       ·simp only [Act.put, List.setIfInBounds_toArray, List.set_cons_zero, List.set_cons_succ, i64_w, i32_w]
        rfl
       refine pure_ (i := 23) (N := some 67) (v := ?_) (a' := ?_) #[true, true, true, true, true, true, true, true, true, true, true, true, true, true, true, true, true, true, true, true, true, true, true, true, false, false] rfl rfl (any_of HT_.out (by kernel_rfl)) (fun _ _ _ h => h) (Or.inl ⟨by rfl, ?_⟩) ?_ ?_
       rotate_left
       ·intro w'
        go_simp
        with_reducible rfl
       rotate_left
       ·simp only [Act.put, List.setIfInBounds_toArray, List.set_cons_zero, List.set_cons_succ, i64_w, i32_w]
        rfl
       refine one_ (i := 24) (N := some 68) #[true, true, true, true, true, true, true, true, true, true, true, true, true, true, true, true, true, true, true, true, true, true, true, true, true, false] rfl rfl (one_of HT_.out (by kernel_rfl)) (by decide) (fun K hK => ?_)
       refine goes_ Try.func62 (by kernel_rfl) rfl #[.agg #[.int .i64 ((rd_T63 x5_3 t192).f0), .int .i64 ((rd_T63 x5_3 t192).f1), .bool ((rd_T63 x5_3 t192).f2)], .int .i64 (wrap64 (((rd_T63 x5_3 (rd y188 x34_3)).f0) + ((rd_T54 l0_1 x24_2).f2))), .int .i64 (wrap64 (((rd_T63 x5_3 (rd y188 x34_3)).f1) + 1))] (by rfl) rfl rfl (by (try simp only [List.map_toArray, List.map_cons, List.map_nil]); first | done | rfl | (simp only [List.length_drop, List.length_take]; rfl)) ?_
       with_reducible refine (impl_reach_better.calls ((rd_T63 x5_3 t192).f0) ((rd_T63 x5_3 t192).f1) ((rd_T63 x5_3 t192).f2) (wrap64 (((rd_T63 x5_3 (rd y188 x34_3)).f0) + ((rd_T54 l0_1 x24_2).f2))) (wrap64 (((rd_T63 x5_3 (rd y188 x34_3)).f1) + 1)) true _ A35.out).mono ?_
       rintro e w42 ⟨rfl, hb⟩
       have HS4_ := (hb.cell (World.block_lt_of_cell? _ _ (hHeld.2.2.2.2.1))).trans (hHeld.2.2.2.2.1)
       have HS5_ := (hb.cell (World.block_lt_of_cell? _ _ (hHeld.2.2.2.2.2.1))).trans (hHeld.2.2.2.2.2.1)
       have HS6_ := (hb.cell (World.block_lt_of_cell? _ _ (hHeld.2.2.2.2.2.2.1))).trans (hHeld.2.2.2.2.2.2.1)
       have HS7_ := (hb.cell (World.block_lt_of_cell? _ _ (hHeld.2.2.2.2.2.2.2.1))).trans (hHeld.2.2.2.2.2.2.2.1)
       have HS8_ := (hb.cell (World.block_lt_of_cell? _ _ (hHeld.2.2.2.2.2.2.2.2.1))).trans (hHeld.2.2.2.2.2.2.2.2.1)
       have HS9_ := (hb.cell (World.block_lt_of_cell? _ _ (hHeld.2.2.2.2.2.2.2.2.2.1))).trans (hHeld.2.2.2.2.2.2.2.2.2.1)
       have HS10_ := (hb.cell (World.block_lt_of_cell? _ _ (hHeld.2.2.2.2.2.2.2.2.2.2.1))).trans (hHeld.2.2.2.2.2.2.2.2.2.2.1)
       have HS11_ := (hb.cell (World.block_lt_of_cell? _ _ (hHeld.2.2.2.2.2.2.2.2.2.2.2.1))).trans (hHeld.2.2.2.2.2.2.2.2.2.2.2.1)
       have HS12_ := (hb.cell (World.block_lt_of_cell? _ _ (hHeld.2.2.2.2.2.2.2.2.2.2.2.2.1))).trans (hHeld.2.2.2.2.2.2.2.2.2.2.2.2.1)
       have HS13_ := (hb.cell (World.block_lt_of_cell? _ _ (hHeld.2.2.2.2.2.2.2.2.2.2.2.2.2.1))).trans (hHeld.2.2.2.2.2.2.2.2.2.2.2.2.2.1)
       have HS14_ := (hb.cell (World.block_lt_of_cell? _ _ (hHeld.2.2.2.2.2.2.2.2.2.2.2.2.2.2.1))).trans (hHeld.2.2.2.2.2.2.2.2.2.2.2.2.2.2.1)
       have HS15_ := (hb.cell (World.block_lt_of_cell? _ _ (hHeld.2.2.2.2.2.2.2.2.2.2.2.2.2.2.2))).trans (hHeld.2.2.2.2.2.2.2.2.2.2.2.2.2.2.2)
       refine ⟨_, rfl, ?_⟩
       replace HO_5 := Aside0.mk (Kd.R_below HO_5.out hb)
       replace HO_32 := Aside0.mk (Kd.R_below HO_32.out hb)
       replace BK181 := Aside0.mk (blk_below BK181.out hb)
       replace BK187 := Aside0.mk (blk_below BK187.out hb)
       replace HB := Aside0.mk (below_step HB.out hb)
       (try clear hb)
       (try clear hb2)
       (try clear hk)
       (try clear hi)
       refine hK.out _ _ ⟨(blk_cell BK187.out 0).trans rfl, (blk_cell BK187.out 1).trans rfl, (blk_cell BK187.out 2).trans rfl, (blk_cell BK187.out 3).trans rfl, HS4_, HS5_, HS6_, HS7_, HS8_, HS9_, HS10_, HS11_, HS12_, HS13_, HS14_, HS15_⟩ (fun hHeld => ?_)
       clear hK K
       refine norm_ (a' := ?_) ?_ ?_
       rotate_left
       ·show Act.put _ (some 68) _ = _
        simp only [Act.put, List.setIfInBounds_toArray, List.set_cons_zero, List.set_cons_succ, i64_w, i32_w]
        rfl
       refine pure_ (i := 25) (N := some 69) (v := ?_) (a' := ?_) #[true, true, true, true, true, true, true, true, true, true, true, true, true, true, true, true, true, true, true, true, true, true, true, true, true, true] rfl rfl (any_of HT_.out (by kernel_rfl)) (fun _ _ _ h => h) (Or.inl ⟨by rfl, ?_⟩) ?_ ?_
       rotate_left
       ·intro w'
        go_simp
        with_reducible rfl
       rotate_left
       ·simp only [Act.put, List.setIfInBounds_toArray, List.set_cons_zero, List.set_cons_succ, i64_w, i32_w]
        rfl
       refine done_ (done_of HT_.out (by kernel_rfl)) ?_
       try go_wp2
       replace HO_5 := Aside0.mk (Kd.R_drew HO_5.out)
       replace HO_32 := Aside0.mk (Kd.R_drew HO_32.out)
       replace BK181 := Aside0.mk (blk_drew BK181.out)
       replace BK187 := Aside0.mk (blk_drew BK187.out)
       replace HB := Aside0.mk (below_drew1 HB.out)
       have p199 : 0 ≤ ((rd y188 x34_3) : Int) := of_decide_eq_true (by first | (with_reducible assumption) | assumption)
       have q199 : (rd y188 x34_3) < (x5_3.length : Int) := of_decide_eq_true (by first | (with_reducible assumption) | assumption)
       obtain ⟨ad199, e199, hx199_0, hx199_1, hx199_2⟩ := at_T63 (Kd.R_reads' HO_5.out).2.2 (rd y188 x34_3) p199 q199
       (try rw [← Nbq31.out] at hx199_2)
       obtain rfl : (⟨go7, 0, none⟩ : Addr) = ad199 := (by injection e199)
       (first | simp only [add_plain] at hx199_0 | simp only [add_at] at hx199_0 | simp only [Addr.add, Nat.zero_add] at hx199_0 | skip)
       (first | simp only [add_plain] at hx199_1 | simp only [add_at] at hx199_1 | simp only [Addr.add, Nat.zero_add] at hx199_1 | skip)
       (first | simp only [add_plain] at hx199_2 | simp only [add_at] at hx199_2 | simp only [Addr.add, Nat.zero_add] at hx199_2 | skip)
       replace p199 := eq_true p199
       replace q199 := eq_true q199
       have p200 : 0 ≤ ((rd y188 x34_3) : Int) := of_decide_eq_true (by first | (with_reducible assumption) | assumption)
       have q200 : (rd y188 x34_3) < (x5_3.length : Int) := of_decide_eq_true (by first | (with_reducible assumption) | assumption)
       obtain ⟨ad200, e200, hx200_0, hx200_1, hx200_2⟩ := at_T63 (Kd.R_reads' HO_5.out).2.2 (rd y188 x34_3) p200 q200
       (try rw [← Nbq31.out] at hx200_2)
       obtain rfl : (⟨go7, 0, none⟩ : Addr) = ad200 := (by injection e200)
       (first | simp only [add_plain] at hx200_0 | simp only [add_at] at hx200_0 | simp only [Addr.add, Nat.zero_add] at hx200_0 | skip)
       (first | simp only [add_plain] at hx200_1 | simp only [add_at] at hx200_1 | simp only [Addr.add, Nat.zero_add] at hx200_1 | skip)
       (first | simp only [add_plain] at hx200_2 | simp only [add_at] at hx200_2 | simp only [Addr.add, Nat.zero_add] at hx200_2 | skip)
       replace p200 := eq_true p200
       replace q200 := eq_true q200
       have p37 : 0 ≤ (t192 : Int) := of_decide_eq_true (by first | (with_reducible assumption) | assumption)
       have q37 : (t192 : Int) < ((x5_3.length : Int) : Int) := of_decide_eq_true (by first | (with_reducible assumption) | assumption)
       obtain ⟨ce37, hcl37, hM37, hcc37, hfr37⟩ := Kd.R_elem HO_5.out z63 (t192 : Int) p37 q37
       obtain rfl := k63_openM hM37
       have hx37_0 : World.cell? _ ⟨go7, (t192 : Int).toNat * 3, none⟩ = some (.int .i64 ((rd_T63 x5_3 t192).f0)) := hcc37 0 _ rfl
       have hx37_1 : World.cell? _ ⟨go7, (t192 : Int).toNat * 3 + 1, none⟩ = some (.int .i64 ((rd_T63 x5_3 t192).f1)) := hcc37 1 _ rfl
       have hx37_2 : World.cell? _ ⟨go7, (t192 : Int).toNat * 3 + 2, none⟩ = some (.bool ((rd_T63 x5_3 t192).f2)) := hcc37 2 _ rfl
       have hf37_0 : World.frozen? _ ⟨go7, (t192 : Int).toNat * 3, none⟩ = false := hfr37 0
       have hf37_1 : World.frozen? _ ⟨go7, (t192 : Int).toNat * 3 + 1, none⟩ = false := hfr37 1
       have hf37_2 : World.frozen? _ ⟨go7, (t192 : Int).toNat * 3 + 2, none⟩ = false := hfr37 2
       clear hcl37 hcc37 hfr37 hM37
       replace p37 := eq_true p37
       replace q37 := eq_true q37
       obtain ⟨ce44, hcl44, hM44, hcc44, hfr44⟩ := Kd.R_elem HO_5.out z63 (t192 : Int) (of_decide_eq_true (by first | (with_reducible assumption) | assumption)) (by have h_ : (t192 : Int) < ((x5_3.length : Int) : Int) := of_decide_eq_true (by first | (with_reducible assumption) | assumption); first | exact h_ | (have e_ := (Kd.R_reads' HO_5.out).1; omega) | simpa using h_)
       obtain rfl := k63_openM hM44
       have HP44 := (Kd.R_seg HO_5.out (t192 : Int) (of_decide_eq_true (by first | (with_reducible assumption) | assumption)) (by have h_ : (t192 : Int) < ((x5_3.length : Int) : Int) := of_decide_eq_true (by first | (with_reducible assumption) | assumption); first | exact h_ | (have e_ := (Kd.R_reads' HO_5.out).1; omega) | simpa using h_) (seg := [.int .i64 (wrap64 (((rd_T63 x5_3 (rd y188 x34_3)).f0) + ((rd_T54 l0_1 x24_2).f2))), .int .i64 (wrap64 (((rd_T63 x5_3 (rd y188 x34_3)).f1) + 1)), .bool true]) (j := 0) hcl44 hcc44 (show 3 ≤ 3 from by decide) (x' := (⟨wrap64 (((rd_T63 x5_3 (rd y188 x34_3)).f0) + ((rd_T54 l0_1 x24_2).f2)), wrap64 (((rd_T63 x5_3 (rd y188 x34_3)).f1) + 1), true⟩ : S63)) (k63_mkM _ _ _ (⟨wrap64 (((rd_T63 x5_3 (rd y188 x34_3)).f0) + ((rd_T54 l0_1 x24_2).f2)), wrap64 (((rd_T63 x5_3 (rd y188 x34_3)).f1) + 1), true⟩ : S63) ) (fun _ hk => hk)).1
       rw [← Ny201.out] at HP44
       have HQ44 := Aside0.mk HP44
       clear hcl44 hcc44 hfr44 hM44 HP44
       refine start_ (n := 19) (S := fun w' => w'.cell? ⟨gb187, 0, none⟩ = some (.int .i64 ((rd_T54 l0_1 x24_2).f0)) ∧ w'.cell? ⟨gb187, 1, none⟩ = some (.int .i64 ((rd_T54 l0_1 x24_2).f1)) ∧ w'.cell? ⟨gb187, 2, none⟩ = some (.int .i64 ((rd_T54 l0_1 x24_2).f2)) ∧ w'.cell? ⟨gb187, 3, none⟩ = some (.int .i64 ((rd_T54 l0_1 x24_2).f3)) ∧ w'.cell? ⟨go7, ((rd y188 x34_3)).toNat * 3, none⟩ = some (.int .i64 ((rd_T63 x5_3 (rd y188 x34_3)).f0)) ∧ w'.cell? ⟨go7, ((rd y188 x34_3)).toNat * 3 + 1, none⟩ = some (.int .i64 ((rd_T63 x5_3 (rd y188 x34_3)).f1)) ∧ w'.cell? ⟨go7, ((rd y188 x34_3)).toNat * 3 + 2, none⟩ = some (.bool (true)) ∧ w'.cell? ⟨go7, ((rd y188 x34_3)).toNat * 3, none⟩ = some (.int .i64 ((rd_T63 x5_3 (rd y188 x34_3)).f0)) ∧ w'.cell? ⟨go7, ((rd y188 x34_3)).toNat * 3 + 1, none⟩ = some (.int .i64 ((rd_T63 x5_3 (rd y188 x34_3)).f1)) ∧ w'.cell? ⟨go7, ((rd y188 x34_3)).toNat * 3 + 2, none⟩ = some (.bool (true))) (ds := [18]) #[false, false, false, false, false, false, false, false, false, false, false, false, false, false, false, false, false, false, false] (by kernel_rfl) rfl rfl ⟨(blk_cell BK187.out 0).trans rfl, (blk_cell BK187.out 1).trans rfl, (blk_cell BK187.out 2).trans rfl, (blk_cell BK187.out 3).trans rfl, hx199_0, hx199_1, hx199_2, hx200_0, hx200_1, hx200_2⟩ (fun hHeld => ?_); refine with_tabW impl_Net_distances.tab14 impl_Net_distances.bits14 (fun HT_ HW_ => ?_)
       generalize w42.drew = w43 at HO_5 HO_32 BK181 BK187 HB HQ44 hf37_0 hf37_1 hf37_2 hx199_0 hx199_1 hx199_2 hx200_0 hx200_1 hx200_2 hx37_0 hx37_1 hx37_2 hHeld ⊢
       refine pure_ (i := 0) (N := some 70) (v := ?_) (a' := ?_) #[true, false, false, false, false, false, false, false, false, false, false, false, false, false, false, false, false, false, false] rfl rfl (any_of HT_.out (by kernel_rfl)) (fun _ _ _ h => h) (Or.inl ⟨by rfl, ?_⟩) ?_ ?_
       rotate_left
       ·intro w'
        go_simp
        with_reducible rfl
       rotate_left
       ·simp only [Act.put, List.setIfInBounds_toArray, List.set_cons_zero, List.set_cons_succ, i64_w, i32_w]
        rfl
       refine pure_ (i := 1) (N := some 71) (v := ?_) (a' := ?_) #[true, true, false, false, false, false, false, false, false, false, false, false, false, false, false, false, false, false, false] rfl rfl (any_of HT_.out (by kernel_rfl)) (fun _ _ _ h => h) (Or.inl ⟨by rfl, ?_⟩) ?_ ?_
       rotate_left
       ·intro w'
        go_simp
        with_reducible rfl
       rotate_left
       ·simp only [Act.put, List.setIfInBounds_toArray, List.set_cons_zero, List.set_cons_succ, i64_w, i32_w]
        rfl
       refine pure_ (i := 2) (N := some 72) (v := ?_) (a' := ?_) #[true, true, true, false, false, false, false, false, false, false, false, false, false, false, false, false, false, false, false] rfl rfl (any_of HT_.out (by kernel_rfl)) (fun _ _ _ h => h) (Or.inl ⟨by rfl, ?_⟩) ?_ ?_
       rotate_left
       ·intro w'
        go_simp
        with_reducible rfl
       rotate_left
       ·simp only [Act.put, List.setIfInBounds_toArray, List.set_cons_zero, List.set_cons_succ, i64_w, i32_w]
        rfl
       refine pure_ (i := 3) (N := some 73) (v := ?_) (a' := ?_) #[true, true, true, true, false, false, false, false, false, false, false, false, false, false, false, false, false, false, false] rfl rfl (any_of HT_.out (by kernel_rfl)) (fun _ _ _ h => h) (Or.inl ⟨by rfl, ?_⟩) ?_ ?_
       rotate_left
       ·intro w'
        go_simp
        with_reducible rfl
       rotate_left
       ·simp only [Act.put, List.setIfInBounds_toArray, List.set_cons_zero, List.set_cons_succ, i64_w, i32_w]
        rfl
       refine pure_ (i := 4) (N := some 74) (v := ?_) (a' := ?_) #[true, true, true, true, true, false, false, false, false, false, false, false, false, false, false, false, false, false, false] rfl rfl (any_of HT_.out (by kernel_rfl)) (fun _ _ _ h => h) (Or.inl ⟨by rfl, ?_⟩) ?_ ?_
       rotate_left
       ·intro w'
        go_simp
        with_reducible rfl
       rotate_left
       ·simp only [Act.put, List.setIfInBounds_toArray, List.set_cons_zero, List.set_cons_succ, i64_w, i32_w]
        rfl
       refine pure_ (i := 5) (N := some 75) (v := ?_) (a' := ?_) #[true, true, true, true, true, true, false, false, false, false, false, false, false, false, false, false, false, false, false] rfl rfl (any_of HT_.out (by kernel_rfl)) (fun _ _ _ h => h) (Or.inl ⟨by rfl, ?_⟩) ?_ ?_
       rotate_left
       ·intro w'
        go_simp
        with_reducible rfl
       rotate_left
       ·simp only [Act.put, List.setIfInBounds_toArray, List.set_cons_zero, List.set_cons_succ, i64_w, i32_w]
        rfl
       refine pure_ (i := 7) (N := some 77) (v := ?_) (a' := ?_) #[true, true, true, true, true, true, false, true, false, false, false, false, false, false, false, false, false, false, false] rfl rfl (any_of HT_.out (by kernel_rfl)) (fun _ _ _ h => h) (Or.inl ⟨by rfl, ?_⟩) ?_ ?_
       rotate_left
       ·intro w'
        go_simp
        with_reducible rfl
       rotate_left
       ·simp only [Act.put, List.setIfInBounds_toArray, List.set_cons_zero, List.set_cons_succ, i64_w, i32_w]
        rfl
       refine pure_ (i := 10) (N := some 80) (v := ?_) (a' := ?_) #[true, true, true, true, true, true, false, true, false, false, true, false, false, false, false, false, false, false, false] rfl rfl (any_of HT_.out (by kernel_rfl)) (fun _ _ _ h => h) (Or.inl ⟨by rfl, ?_⟩) ?_ ?_
       rotate_left
       ·intro w'
        go_simp
        with_reducible rfl
       rotate_left
       ·simp only [Act.put, List.setIfInBounds_toArray, List.set_cons_zero, List.set_cons_succ, i64_w, i32_w]
        rfl
       refine pure_ (i := 11) (N := some 81) (v := ?_) (a' := ?_) #[true, true, true, true, true, true, false, true, false, false, true, true, false, false, false, false, false, false, false] rfl rfl (any_of HT_.out (by kernel_rfl)) (fun _ _ _ h => h) (Or.inl ⟨by rfl, ?_⟩) ?_ ?_
       rotate_left
       ·intro w'
        go_simp
        with_reducible rfl
       rotate_left
       ·simp only [Act.put, List.setIfInBounds_toArray, List.set_cons_zero, List.set_cons_succ, i64_w, i32_w]
        rfl
       refine pure_ (i := 12) (N := some 82) (v := ?_) (a' := ?_) #[true, true, true, true, true, true, false, true, false, false, true, true, true, false, false, false, false, false, false] rfl rfl (any_of HT_.out (by kernel_rfl)) (fun _ _ _ h => h) (Or.inl ⟨by rfl, ?_⟩) ?_ ?_
       rotate_left
       ·intro w'
        go_simp
        with_reducible rfl
       rotate_left
       ·simp only [Act.put, List.setIfInBounds_toArray, List.set_cons_zero, List.set_cons_succ, i64_w, i32_w]
        rfl
       refine pure_ (i := 13) (N := some 83) (v := ?_) (a' := ?_) #[true, true, true, true, true, true, false, true, false, false, true, true, true, true, false, false, false, false, false] rfl rfl (any_of HT_.out (by kernel_rfl)) (fun _ _ _ h => h) (Or.inl ⟨by rfl, ?_⟩) ?_ ?_
       rotate_left
       ·intro w'
        go_simp
        with_reducible rfl
       rotate_left
       ·simp only [Act.put, List.setIfInBounds_toArray, List.set_cons_zero, List.set_cons_succ, i64_w, i32_w]
        rfl
       refine take_ (i := 6) (N := some 76) (v := ?_) (a' := ?_) #[true, true, true, true, true, true, true, true, false, false, true, true, true, true, false, false, false, false, false] rfl rfl (take_ofW HT_.out HW_.out (by kernel_rfl)) (fun _ _ _ h => h) (Or.inl ⟨by rfl, ?_⟩) hHeld ?_ ?_
       rotate_left
       ·rintro w' ⟨s0, s1, s2, s3, s4, s5, s6, s7, s8, s9⟩
        go_simp
        with_reducible rfl
       rotate_left
       ·simp only [Act.put, List.setIfInBounds_toArray, List.set_cons_zero, List.set_cons_succ, i64_w, i32_w]
        rfl
       refine take_ (i := 8) (N := some 78) (v := ?_) (a' := ?_) #[true, true, true, true, true, true, true, true, true, false, true, true, true, true, false, false, false, false, false] rfl rfl (take_ofW HT_.out HW_.out (by kernel_rfl)) (fun _ _ _ h => h) (Or.inl ⟨by rfl, ?_⟩) hHeld ?_ ?_
       rotate_left
       ·rintro w' ⟨s0, s1, s2, s3, s4, s5, s6, s7, s8, s9⟩
        go_simp
        with_reducible rfl
       rotate_left
       ·simp only [Act.put, List.setIfInBounds_toArray, List.set_cons_zero, List.set_cons_succ, i64_w, i32_w]
        rfl
       refine pure_ (i := 9) (N := some 79) (v := ?_) (a' := ?_) #[true, true, true, true, true, true, true, true, true, true, true, true, true, true, false, false, false, false, false] rfl rfl (any_of HT_.out (by kernel_rfl)) (fun _ _ _ h => h) (Or.inl ⟨by rfl, ?_⟩) ?_ ?_
       rotate_left
       ·intro w'
        go_simp
        with_reducible rfl
       rotate_left
       ·simp only [Act.put, List.setIfInBounds_toArray, List.set_cons_zero, List.set_cons_succ, i64_w, i32_w]
        rfl
       refine take_ (i := 14) (N := some 84) (v := ?_) (a' := ?_) #[true, true, true, true, true, true, true, true, true, true, true, true, true, true, true, false, false, false, false] rfl rfl (take_ofW HT_.out HW_.out (by kernel_rfl)) (fun _ _ _ h => h) (Or.inl ⟨by rfl, ?_⟩) hHeld ?_ ?_
       rotate_left
       ·rintro w' ⟨s0, s1, s2, s3, s4, s5, s6, s7, s8, s9⟩
        go_simp
        with_reducible rfl
       rotate_left
       ·simp only [Act.put, List.setIfInBounds_toArray, List.set_cons_zero, List.set_cons_succ, i64_w, i32_w]
        rfl
       refine pure_ (i := 15) (N := some 85) (v := ?_) (a' := ?_) #[true, true, true, true, true, true, true, true, true, true, true, true, true, true, true, true, false, false, false] rfl rfl (any_of HT_.out (by kernel_rfl)) (fun _ _ _ h => h) (Or.inl ⟨by rfl, ?_⟩) ?_ ?_
       rotate_left
       ·intro w'
        go_simp
        with_reducible rfl
       rotate_left
       ·simp only [Act.put, List.setIfInBounds_toArray, List.set_cons_zero, List.set_cons_succ, i64_w, i32_w]
        rfl
       refine pure_ (i := 16) (N := some 86) (v := ?_) (a' := ?_) #[true, true, true, true, true, true, true, true, true, true, true, true, true, true, true, true, true, false, false] rfl rfl (any_of HT_.out (by kernel_rfl)) (fun _ _ _ h => h) (Or.inl ⟨by rfl, ?_⟩) ?_ ?_
       rotate_left
       ·intro w'
        go_simp
        with_reducible rfl
       rotate_left
       ·simp only [Act.put, List.setIfInBounds_toArray, List.set_cons_zero, List.set_cons_succ, i64_w, i32_w]
        rfl
       refine pure_ (i := 17) (N := some 87) (v := ?_) (a' := ?_) #[true, true, true, true, true, true, true, true, true, true, true, true, true, true, true, true, true, true, false] rfl rfl (any_of HT_.out (by kernel_rfl)) (fun _ _ _ h => h) (Or.inl ⟨by rfl, ?_⟩) ?_ ?_
       rotate_left
       ·intro w'
        go_simp
        with_reducible rfl
       rotate_left
       ·simp only [Act.put, List.setIfInBounds_toArray, List.set_cons_zero, List.set_cons_succ, i64_w, i32_w]
        rfl
       refine last_ (i := 18) (N := none) #[true, true, true, true, true, true, true, true, true, true, true, true, true, true, true, true, true, true, true] rfl rfl (one_of HT_.out (by kernel_rfl)) (by decide) (fun K hK => ?_)
       refine skip_ (w1 := ?_) (by rfl) rfl ?_ ?_
       rotate_left
       ·go_simp
        rfl
       refine hK.out _ _ ?_
       clear hK K
       refine done_ (done_of HT_.out (by kernel_rfl)) ?_
       try go_wp2
       (try simp only [← hl5_3])
       go_roundg k3
       case measure => have := HK1.out; have := HK2.out; have := HK3.out; omega
       case rel => exact ⟨(y201), (true), (wrap64 (x34_3 + 1)), (by first | rfl | (simp; done) | (simp [*]; done)), (by first | rfl | (simp; done) | (simp [*]; done)), H', ⟨by have := HK1.out; have := HK2.out; have := HK3.out; omega⟩, ⟨by (try simp only [hl5_1]); (try simp only [hl5_2]); (try simp only [hl5_3]); (with_reducible repeat (first | apply Kd.R_alloc | apply Kd.R_drewN | apply Kd.R_drew)); exact HQ44.out⟩, ⟨by (try simp only [hl5_1]); (try simp only [hl5_2]); (try simp only [hl5_3]); (with_reducible repeat (first | apply Kd.R_alloc | apply Kd.R_drewN | apply Kd.R_drew)); exact Kd.R_mono (Kd.R_far (p := ⟨go7, (t192 : Int).toNat * 3 + 2, none⟩) (Kd.R_far (p := ⟨go7, (t192 : Int).toNat * 3 + 1, none⟩) (Kd.R_far (p := ⟨go7, (t192 : Int).toNat * 3, none⟩) (Kd.R_apart' HO_32.out (Kd.R_typed HO_5.out) (by decide)) (fun _ hk e_ => hk.2 (by rw [e_]; rfl)) (.int .i64 (wrap64 (((rd_T63 x5_3 (rd y188 x34_3)).f0) + ((rd_T54 l0_1 x24_2).f2))))) (fun _ hk e_ => hk.2 (by rw [e_]; rfl)) (.int .i64 (wrap64 (((rd_T63 x5_3 (rd y188 x34_3)).f1) + 1)))) (fun _ hk e_ => hk.2 (by rw [e_]; rfl)) (.bool true)) (fun _ hk => trivial)⟩, ⟨by (try simp only [hl5_1]); (try simp only [hl5_2]); (try simp only [hl5_3]); (with_reducible repeat (first | refine blk_drewN ?_ _ | refine blk_drew ?_ | refine blk_alloc ?_ _)); refine blk_far ?_ (by have h_ := Kd.R_ne HO_5.out BK181.out (by decide); intro e_; exact h_ (by rw [e_]; rfl)) _; (with_reducible repeat (first | refine blk_drewN ?_ _ | refine blk_drew ?_ | refine blk_alloc ?_ _)); refine blk_far ?_ (by have h_ := Kd.R_ne HO_5.out BK181.out (by decide); intro e_; exact h_ (by rw [e_]; rfl)) _; (with_reducible repeat (first | refine blk_drewN ?_ _ | refine blk_drew ?_ | refine blk_alloc ?_ _)); refine blk_far ?_ (by have h_ := Kd.R_ne HO_5.out BK181.out (by decide); intro e_; exact h_ (by rw [e_]; rfl)) _; (with_reducible repeat (first | refine blk_drewN ?_ _ | refine blk_drew ?_ | refine blk_alloc ?_ _)); exact BK181.out⟩, ⟨by (try simp only [hl5_1]); (try simp only [hl5_2]); (try simp only [hl5_3]); (with_reducible repeat (first | refine blk_drewN ?_ _ | refine blk_drew ?_ | refine blk_alloc ?_ _)); refine blk_far ?_ (by have h_ := Kd.R_ne HO_5.out BK187.out (by decide); intro e_; exact h_ (by rw [e_]; rfl)) _; (with_reducible repeat (first | refine blk_drewN ?_ _ | refine blk_drew ?_ | refine blk_alloc ?_ _)); refine blk_far ?_ (by have h_ := Kd.R_ne HO_5.out BK187.out (by decide); intro e_; exact h_ (by rw [e_]; rfl)) _; (with_reducible repeat (first | refine blk_drewN ?_ _ | refine blk_drew ?_ | refine blk_alloc ?_ _)); refine blk_far ?_ (by have h_ := Kd.R_ne HO_5.out BK187.out (by decide); intro e_; exact h_ (by rw [e_]; rfl)) _; (with_reducible repeat (first | refine blk_drewN ?_ _ | refine blk_drew ?_ | refine blk_alloc ?_ _)); exact BK187.out⟩, ⟨by repeat (first | (with_reducible first | exact HB.out | apply below_alloc | apply pw_below_drewN | apply below_drew1 | refine below_set ?_ GB7.out | refine below_set ?_ GB7.out | refine below_set ?_ GB7.out | refine below_set ?_ GE181.out | refine below_set ?_ GE187.out) | exact HB.out)⟩⟩
end Go.Proofs.Ytdeleoghaabjlaa.PFnBridges
