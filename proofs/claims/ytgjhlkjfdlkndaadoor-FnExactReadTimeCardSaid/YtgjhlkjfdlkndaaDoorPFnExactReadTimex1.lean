-- Written by a program of this session (wip/tools/fltprint.py: the kit's printer, taught more).
import Derived.Test.YtgjhlkjfdlkndaaDoorPFnExactReadTimex0
namespace Go.Proofs.YtgjhlkjfdlkndaaDoor.PFnExactReadTime
open Go.RowKit Go.Proofs.YtgjhlkjfdlkndaaDoorW.PrintWords Go.Proofs.YtgjhlkjfdlkndaaDoorW.PrintLast Go.Proofs.YtgjhlkjfdlkndaaDoorW.PrintMore
attribute [local go_sem] max2_int min2_int max_two min_two max_three min_three max_four min_four   -- for this text's walks alone
set_option linter.unusedVariables false
set_option linter.unusedSimpArgs false

/-! ### spec_l01In: function 12 -/
def spec_l01In.f (a0 : Int) (a1 : Int) (a2 : Int) : Option (Bool) := if a1 ≤ a0 then (some (decide (a0 ≤ a2))) else (some false)
set_option maxHeartbeats 8000000 in
set_option maxRecDepth 100000 in
theorem spec_l01In.calls (a0 : Int) (a1 : Int) (a2 : Int) (r : Bool) (w : World) (h : spec_l01In.f a0 a1 a2 = some r) :
  Calls Tryd.prog 12 #[.int .i64 a0, .int .i64 a1, .int .i64 a2] w fun e w' => e = .returned (.bool r) ∧ Drawn0 w w' := by
 have H : (if a1 ≤ a0 then (some (decide (a0 ≤ a2))) else (some false)) = some r := h
 clear h
 by_cases c4 : a1 ≤ a0
 ·rw [if_pos c4] at H
  have c4b0 : decide (a1 ≤ a0) = true := decide_eq_true c4
  clear c4
  obtain rfl := Option.some.inj H
  go_enter Tryd.func12, Tryd.ntmps12
  go_wp2
  all_goals (first | (exfalso; omega) | skip)
  go_ret
  exact ⟨by first | rfl | (simp; done) | (simp [*]; done), by repeat (first | exact Drawn0.refl _ | apply Drawn0.step)⟩
 ·rw [if_neg c4] at H
  have c4b0 : decide (a1 ≤ a0) = false := decide_eq_false c4
  clear c4
  obtain rfl := Option.some.inj H
  go_enter Tryd.func12, Tryd.ntmps12
  go_wp2
  all_goals (first | (exfalso; omega) | skip)
  go_ret
  exact ⟨by first | rfl | (simp; done) | (simp [*]; done), by repeat (first | exact Drawn0.refl _ | apply Drawn0.step)⟩

/-! ### spec_l01Num: function 16 -/
def spec_l01Num.l0 : Nat → Int → ByteArray → Bool → Option (ByteArray)
 | 0, _, _, _ => none
 | k + 1, x0, x3, x4 => if x0 = 0 then (if x4 = true then (if 1 + x3.size ≤ 9223372036854775807 then (some ((⟨#[45]⟩ : ByteArray) ++ x3)) else (none)) else (some x3)) else (if (Int.tmod x0 10) < 0 then ((some (([(wrap64 (48 + (wrap64 (-(Int.tmod x0 10))))) % 256] : List Int) : List Int)).bind fun y101 => (if (strOfNums y101).size + x3.size ≤ 9223372036854775807 then (spec_l01Num.l0 k (wrap64 (Int.tdiv x0 10)) ((strOfNums y101) ++ x3) x4) else (none))) else ((some (([(wrap64 (48 + (Int.tmod x0 10))) % 256] : List Int) : List Int)).bind fun y104 => (if (strOfNums y104).size + x3.size ≤ 9223372036854775807 then (spec_l01Num.l0 k (wrap64 (Int.tdiv x0 10)) ((strOfNums y104) ++ x3) x4) else (none))))
def spec_l01Num.f (k : Nat) (a0 : Int) : Option (ByteArray) := if a0 = 0 then (some (⟨#[48]⟩ : ByteArray)) else (spec_l01Num.l0 k a0 (⟨#[]⟩ : ByteArray) (decide (a0 < 0)))
theorem spec_l01Num.mono_l : ∀ k, (∀ y0 y1 y2, LeO (spec_l01Num.l0 k y0 y1 y2) (spec_l01Num.l0 (k + 1) y0 y1 y2))
 | 0 => fun _ _ _ r h => by simp [spec_l01Num.l0] at h
 | k + 1 => by
  have ih0 := spec_l01Num.mono_l k
  ·intro y0 y1 y2
   unfold spec_l01Num.l0
   repeat' first
   | (with_reducible exact ih0 _ _ _)
   | (with_reducible exact LeO.refl _)
   | (with_reducible exact LeO.none _)
   | (with_reducible refine LeO.ite ?_ ?_)
   | (with_reducible refine LeO.bind ?_ (fun _ => ?_))
   | exact ih0 _ _ _
   | exact LeO.none _
   | refine LeO.ite ?_ ?_
   | refine LeO.bind ?_ (fun _ => ?_)
theorem spec_l01Num.mono : ∀ a0 k, LeO (spec_l01Num.f k a0) (spec_l01Num.f (k + 1) a0) := by
 intro a0 k
 have ih0 := spec_l01Num.mono_l k
 unfold spec_l01Num.f
 repeat' first
   | (with_reducible exact ih0 _ _ _)
   | (with_reducible exact LeO.refl _)
   | (with_reducible exact LeO.none _)
   | (with_reducible refine LeO.ite ?_ ?_)
   | (with_reducible refine LeO.bind ?_ (fun _ => ?_))
   | exact ih0 _ _ _
   | exact LeO.none _
   | refine LeO.ite ?_ ?_
   | refine LeO.bind ?_ (fun _ => ?_)
set_option maxHeartbeats 8000000 in
set_option maxRecDepth 100000 in
theorem spec_l01Num.calls (k : Nat) (a0 : Int) (r : ByteArray) (w : World) (h : spec_l01Num.f k a0 = some r) :
  Calls Tryd.prog 16 #[.int .i64 a0] w fun e w' => e = .returned (.string r) ∧ Below w.heap.size w w' := by
 have HB := Aside0.mk (Below.refl w.heap.size w)
 have H : (if a0 = 0 then (some (⟨#[48]⟩ : ByteArray)) else (spec_l01Num.l0 k a0 (⟨#[]⟩ : ByteArray) (decide (a0 < 0)))) = some r := h
 clear h
 by_cases c2 : a0 = 0
 ·rw [if_pos c2] at H
  have c2b0 : (a0 == 0) = true := beq_iff_eq.mpr c2
  have c2b1 : (a0 != 0) = false := bne_eq_false_iff_eq.mpr c2
  clear c2
  obtain rfl := Option.some.inj H
  go_enter Tryd.func16, Tryd.ntmps16
  go_wp2
  all_goals (first | (exfalso; omega) | skip)
  go_ret
  exact ⟨by first | rfl | (simp [errW_none, errW_some] <;> rfl) | (simp [*, errW_none, errW_some] <;> rfl), by repeat (first | (with_reducible first | exact HB.out | apply below_alloc | apply pw_below_drewN | apply below_drew1) | exact HB.out)⟩
 ·rw [if_neg c2] at H
  have c2b0 : (a0 == 0) = false := beq_eq_false_iff_ne.mpr c2
  have c2b1 : (a0 != 0) = true := bne_iff_ne.mpr c2
  have H' := Aside0.mk H
  clear H
  go_enter Tryd.func16, Tryd.ntmps16
  go_wp2
  go_loopg [0, 3] k (fun kq v0 v3 w' => ∃ (x0_1 : Int) (x3_1 : ByteArray), v0 = .int .i64 x0_1 ∧ v3 = .string x3_1 ∧ Aside0 (spec_l01Num.l0 kq x0_1 x3_1 (decide (a0 < 0)) = some r) ∧ Aside0 (kq ≤ k) ∧ Aside0 (Below w.heap.size w w'))
  case atStart => exact ⟨(a0), ((⟨#[]⟩ : ByteArray)), (by first | rfl | (simp; done) | (simp [*]; done)), (by first | rfl | (simp; done) | (simp [*]; done)), H', ⟨Nat.le_refl _⟩, ⟨by repeat (first | (with_reducible first | exact HB.out | apply below_alloc | apply pw_below_drewN | apply below_drew1) | exact HB.out)⟩⟩
  case round =>
   clear H'
   try clear c1
   try clear c2
   try clear c2b0
   try clear c2b1
   try clear p2
   obtain ⟨x0_1, x3_1, rfl, rfl, HA, HK1, HB⟩ := hrel
   cases gk with
   | zero => exact absurd HA.out (by simp [spec_l01Num.l0])
   | succ k1 =>
    have H := HA.out
    clear HA
    simp only [spec_l01Num.l0] at H
    by_cases c3 : x0_1 = 0
    ·rw [if_pos c3] at H
     have c3b0 : (x0_1 == 0) = true := beq_iff_eq.mpr c3
     have c3b1 : (x0_1 != 0) = false := bne_eq_false_iff_eq.mpr c3
     clear c3
     by_cases c4 : (decide (a0 < 0)) = true
     ·rw [if_pos c4] at H
      have c4b0 : (decide (a0 < 0)) = true := c4
      have c4d := of_decide_eq_true c4
      clear c4
      by_cases c5 : 1 + x3_1.size ≤ 9223372036854775807
      ·rw [if_pos c5] at H
       have c5b0 := eq_true c5
       have c5b1 : decide (1 + x3_1.size ≤ 9223372036854775807) = true := decide_eq_true c5
       try have c5b2 : (9223372036854775807 < 1 + x3_1.size) = False := eq_false (Nat.not_lt.2 c5)
       have c5n := c5
       try simp only [ByteArray.size_append, show (⟨#[48]⟩ : ByteArray).size = 1 from rfl, show (⟨#[58]⟩ : ByteArray).size = 1 from rfl, show (⟨#[45]⟩ : ByteArray).size = 1 from rfl] at c5n
       obtain rfl := Option.some.inj H
       go_wp2
       all_goals (first | (exfalso; omega) | skip)
       go_ret
       exact ⟨by first | rfl | (simp [errW_none, errW_some] <;> rfl) | (simp [*, errW_none, errW_some] <;> rfl), by repeat (first | (with_reducible first | exact HB.out | apply below_alloc | apply pw_below_drewN | apply below_drew1) | exact HB.out)⟩
      ·rw [if_neg c5] at H
       exact absurd H (by simp)
     ·rw [if_neg c4] at H
      have c4b0 : (decide (a0 < 0)) = false := by simpa using c4
      have c4d := of_decide_eq_false c4b0
      clear c4
      obtain rfl := Option.some.inj H
      go_wp2
      all_goals (first | (exfalso; omega) | skip)
      go_ret
      exact ⟨by first | rfl | (simp [errW_none, errW_some] <;> rfl) | (simp [*, errW_none, errW_some] <;> rfl), by repeat (first | (with_reducible first | exact HB.out | apply below_alloc | apply pw_below_drewN | apply below_drew1) | exact HB.out)⟩
    ·rw [if_neg c3] at H
     have c3b0 : (x0_1 == 0) = false := beq_eq_false_iff_ne.mpr c3
     have c3b1 : (x0_1 != 0) = true := bne_iff_ne.mpr c3
     by_cases c6 : (Int.tmod x0_1 10) < 0
     ·rw [if_pos c6] at H
      have c6b0 : decide ((Int.tmod x0_1 10) < 0) = true := decide_eq_true c6
      clear c6
      obtain ⟨y101, hy101⟩ : ∃ y_ : List Int, y_ = (([(wrap64 (48 + (wrap64 (-(Int.tmod x0_1 10))))) % 256] : List Int)) := ⟨_, rfl⟩
      replace H : (if (strOfNums y101).size + x3_1.size ≤ 9223372036854775807 then (spec_l01Num.l0 k1 (wrap64 (Int.tdiv x0_1 10)) ((strOfNums y101) ++ x3_1) (decide (a0 < 0))) else (none)) = some r := by first | (rw [hy101]; with_reducible exact H) | (have H2_ := (Option.bind_some _ _).symm.trans H; rw [hy101]; with_reducible exact H2_) | (have H2_ := (Option.bind_some _ _).symm.trans H; with_reducible exact H2_) | with_reducible exact H | (rw [hy101]; exact H) | exact H
      have Ny101 := Aside0.mk hy101
      clear hy101
      by_cases c7 : (strOfNums y101).size + x3_1.size ≤ 9223372036854775807
      ·rw [if_pos c7] at H
       have c7b0 := eq_true c7
       have c7b1 : decide ((strOfNums y101).size + x3_1.size ≤ 9223372036854775807) = true := decide_eq_true c7
       try have c7b2 : (9223372036854775807 < (strOfNums y101).size + x3_1.size) = False := eq_false (Nat.not_lt.2 c7)
       have c7n := c7
       try simp only [ByteArray.size_append, show (⟨#[48]⟩ : ByteArray).size = 1 from rfl, show (⟨#[58]⟩ : ByteArray).size = 1 from rfl, show (⟨#[45]⟩ : ByteArray).size = 1 from rfl] at c7n
       have H' := Aside0.mk H
       clear H
       go_wp2_with (first | ((with_reducible refine gate_dst (N := 21) rfl ?_); refine Kd.R_lit (Kd.int .u8) _ 5 ?hg (N := 21) ?hd (xs := ([(wrap64 (48 + (wrap64 (-(Int.tmod x0_1 10))))) % 256] : List Int)) (inner := [.int .u8 ((wrap64 (48 + (wrap64 (-(Int.tmod x0_1 10))))) % 256)]) (ok := fun _ => True) (okp := fun _ => True) ?hr ?hp (fun _ hk => hk) trivial (Below.refl _ _) (Nat.le_refl _) (by simp) ?_; (case hd => rfl); (case hg => rfl); (case hr => first | (go_simp; done) | (go_simp; rfl)); (case hp => exact (Reps.one (show Kd.M (Kd.int .u8) _ _ _ ((wrap64 (48 + (wrap64 (-(Int.tmod x0_1 10))))) % 256) [.int .u8 ((wrap64 (48 + (wrap64 (-(Int.tmod x0_1 10))))) % 256)] from rfl) (Reps.none _ _))); intro v102 w8 ho9 hb hg_ hnew_; clear hg_ hnew_; (first | rw [← Ny101.out] at ho9 | (simp only [Int.reduceToNat] at ho9; rw [← Ny101.out] at ho9)); have n0_ := Aside0.mk (Kd.R_lower ho9 (below_size (by repeat (first | (with_reducible first | exact HB.out | apply below_alloc | apply pw_below_drewN | apply below_drew1) | exact HB.out)))); have n1_ := Aside0.mk (below_step (by repeat (first | (with_reducible first | exact HB.out | apply below_alloc | apply pw_below_drewN | apply below_drew1) | exact HB.out)) hb); clear HB; have HO103 := n0_; have HB := n1_; clear n0_ n1_; clear hb ho9; have hcv10 := own_string (P := Tryd.prog) Tryd.underlying24 Tryd.underlying5 Tryd.underlying9 (Kd.own_of_R HO103.out)))
       all_goals (first | (exfalso; omega) | skip)
       go_roundg k1
       case measure => have := HK1.out; omega
       case rel => exact ⟨(wrap64 (Int.tdiv x0_1 10)), ((strOfNums y101) ++ x3_1), (by first | rfl | (simp; done) | (simp [*]; done)), (by first | rfl | (simp; done) | (simp [*]; done)), H', ⟨by have := HK1.out; omega⟩, ⟨by repeat (first | (with_reducible first | exact HB.out | apply below_alloc | apply pw_below_drewN | apply below_drew1) | exact HB.out)⟩⟩
      ·rw [if_neg c7] at H
       exact absurd H (by simp)
     ·rw [if_neg c6] at H
      have c6b0 : decide ((Int.tmod x0_1 10) < 0) = false := decide_eq_false c6
      clear c6
      obtain ⟨y104, hy104⟩ : ∃ y_ : List Int, y_ = (([(wrap64 (48 + (Int.tmod x0_1 10))) % 256] : List Int)) := ⟨_, rfl⟩
      replace H : (if (strOfNums y104).size + x3_1.size ≤ 9223372036854775807 then (spec_l01Num.l0 k1 (wrap64 (Int.tdiv x0_1 10)) ((strOfNums y104) ++ x3_1) (decide (a0 < 0))) else (none)) = some r := by first | (rw [hy104]; with_reducible exact H) | (have H2_ := (Option.bind_some _ _).symm.trans H; rw [hy104]; with_reducible exact H2_) | (have H2_ := (Option.bind_some _ _).symm.trans H; with_reducible exact H2_) | with_reducible exact H | (rw [hy104]; exact H) | exact H
      have Ny104 := Aside0.mk hy104
      clear hy104
      by_cases c11 : (strOfNums y104).size + x3_1.size ≤ 9223372036854775807
      ·rw [if_pos c11] at H
       have c11b0 := eq_true c11
       have c11b1 : decide ((strOfNums y104).size + x3_1.size ≤ 9223372036854775807) = true := decide_eq_true c11
       try have c11b2 : (9223372036854775807 < (strOfNums y104).size + x3_1.size) = False := eq_false (Nat.not_lt.2 c11)
       have c11n := c11
       try simp only [ByteArray.size_append, show (⟨#[48]⟩ : ByteArray).size = 1 from rfl, show (⟨#[58]⟩ : ByteArray).size = 1 from rfl, show (⟨#[45]⟩ : ByteArray).size = 1 from rfl] at c11n
       have H' := Aside0.mk H
       clear H
       go_wp2_with (first | ((with_reducible refine gate_dst (N := 21) rfl ?_); refine Kd.R_lit (Kd.int .u8) _ 5 ?hg (N := 21) ?hd (xs := ([(wrap64 (48 + (Int.tmod x0_1 10))) % 256] : List Int)) (inner := [.int .u8 ((wrap64 (48 + (Int.tmod x0_1 10))) % 256)]) (ok := fun _ => True) (okp := fun _ => True) ?hr ?hp (fun _ hk => hk) trivial (Below.refl _ _) (Nat.le_refl _) (by simp) ?_; (case hd => rfl); (case hg => rfl); (case hr => first | (go_simp; done) | (go_simp; rfl)); (case hp => exact (Reps.one (show Kd.M (Kd.int .u8) _ _ _ ((wrap64 (48 + (Int.tmod x0_1 10))) % 256) [.int .u8 ((wrap64 (48 + (Int.tmod x0_1 10))) % 256)] from rfl) (Reps.none _ _))); intro v105 w12 ho13 hb hg_ hnew_; clear hg_ hnew_; (first | rw [← Ny104.out] at ho13 | (simp only [Int.reduceToNat] at ho13; rw [← Ny104.out] at ho13)); have n0_ := Aside0.mk (Kd.R_lower ho13 (below_size (by repeat (first | (with_reducible first | exact HB.out | apply below_alloc | apply pw_below_drewN | apply below_drew1) | exact HB.out)))); have n1_ := Aside0.mk (below_step (by repeat (first | (with_reducible first | exact HB.out | apply below_alloc | apply pw_below_drewN | apply below_drew1) | exact HB.out)) hb); clear HB; have HO106 := n0_; have HB := n1_; clear n0_ n1_; clear hb ho13; have hcv14 := own_string (P := Tryd.prog) Tryd.underlying24 Tryd.underlying5 Tryd.underlying9 (Kd.own_of_R HO106.out)))
       all_goals (first | (exfalso; omega) | skip)
       go_roundg k1
       case measure => have := HK1.out; omega
       case rel => exact ⟨(wrap64 (Int.tdiv x0_1 10)), ((strOfNums y104) ++ x3_1), (by first | rfl | (simp; done) | (simp [*]; done)), (by first | rfl | (simp; done) | (simp [*]; done)), H', ⟨by have := HK1.out; omega⟩, ⟨by repeat (first | (with_reducible first | exact HB.out | apply below_alloc | apply pw_below_drewN | apply below_drew1) | exact HB.out)⟩⟩
      ·rw [if_neg c11] at H
       exact absurd H (by simp)

/-! ### spec_TimeText: function 11 -/
def spec_TimeText.f (k : Nat) (a0 : Int) : Option (ByteArray) := (spec_l01In.f a0 0 100000).bind fun t107 => (if t107 = true then ((spec_l01Num.f k (wrap64 (Int.tdiv a0 60))).bind fun t108 => ((spec_l01Num.f k (Int.tmod a0 60)).bind fun t109 => (if (t108.size : Int) < 2 then (if 1 + t108.size ≤ 9223372036854775807 then (if (t109.size : Int) < 2 then (if 1 + t109.size ≤ 9223372036854775807 then (if ((⟨#[48]⟩ : ByteArray) ++ t108).size + 1 ≤ 9223372036854775807 then (if (((⟨#[48]⟩ : ByteArray) ++ t108) ++ (⟨#[58]⟩ : ByteArray)).size + ((⟨#[48]⟩ : ByteArray) ++ t109).size ≤ 9223372036854775807 then (some ((((⟨#[48]⟩ : ByteArray) ++ t108) ++ (⟨#[58]⟩ : ByteArray)) ++ ((⟨#[48]⟩ : ByteArray) ++ t109))) else (none)) else (none)) else (none)) else (if ((⟨#[48]⟩ : ByteArray) ++ t108).size + 1 ≤ 9223372036854775807 then (if (((⟨#[48]⟩ : ByteArray) ++ t108) ++ (⟨#[58]⟩ : ByteArray)).size + t109.size ≤ 9223372036854775807 then (some ((((⟨#[48]⟩ : ByteArray) ++ t108) ++ (⟨#[58]⟩ : ByteArray)) ++ t109)) else (none)) else (none))) else (none)) else (if (t109.size : Int) < 2 then (if 1 + t109.size ≤ 9223372036854775807 then (if t108.size + 1 ≤ 9223372036854775807 then (if (t108 ++ (⟨#[58]⟩ : ByteArray)).size + ((⟨#[48]⟩ : ByteArray) ++ t109).size ≤ 9223372036854775807 then (some ((t108 ++ (⟨#[58]⟩ : ByteArray)) ++ ((⟨#[48]⟩ : ByteArray) ++ t109))) else (none)) else (none)) else (none)) else (if t108.size + 1 ≤ 9223372036854775807 then (if (t108 ++ (⟨#[58]⟩ : ByteArray)).size + t109.size ≤ 9223372036854775807 then (some ((t108 ++ (⟨#[58]⟩ : ByteArray)) ++ t109)) else (none)) else (none)))))) else (some (⟨#[]⟩ : ByteArray)))
theorem spec_TimeText.mono : ∀ a0 k, LeO (spec_TimeText.f k a0) (spec_TimeText.f (k + 1) a0) := by
 intro a0 k
 unfold spec_TimeText.f
 repeat' first
   | (with_reducible exact spec_l01Num.mono _ _)
   | (with_reducible exact LeO.refl _)
   | (with_reducible exact LeO.none _)
   | (with_reducible refine LeO.ite ?_ ?_)
   | (with_reducible refine LeO.bind ?_ (fun _ => ?_))
   | exact spec_l01Num.mono _ _
   | exact LeO.none _
   | refine LeO.ite ?_ ?_
   | refine LeO.bind ?_ (fun _ => ?_)
set_option maxHeartbeats 8000000 in
set_option maxRecDepth 100000 in
theorem spec_TimeText.calls (k : Nat) (a0 : Int) (r : ByteArray) (w : World) (h : spec_TimeText.f k a0 = some r) :
  Calls Tryd.prog 11 #[.int .i64 a0] w fun e w' => e = .returned (.string r) ∧ Below w.heap.size w w' := by
 have HB := Aside0.mk (Below.refl w.heap.size w)
 have H : ((spec_l01In.f a0 0 100000).bind fun t107 => (if t107 = true then ((spec_l01Num.f k (wrap64 (Int.tdiv a0 60))).bind fun t108 => ((spec_l01Num.f k (Int.tmod a0 60)).bind fun t109 => (if (t108.size : Int) < 2 then (if 1 + t108.size ≤ 9223372036854775807 then (if (t109.size : Int) < 2 then (if 1 + t109.size ≤ 9223372036854775807 then (if ((⟨#[48]⟩ : ByteArray) ++ t108).size + 1 ≤ 9223372036854775807 then (if (((⟨#[48]⟩ : ByteArray) ++ t108) ++ (⟨#[58]⟩ : ByteArray)).size + ((⟨#[48]⟩ : ByteArray) ++ t109).size ≤ 9223372036854775807 then (some ((((⟨#[48]⟩ : ByteArray) ++ t108) ++ (⟨#[58]⟩ : ByteArray)) ++ ((⟨#[48]⟩ : ByteArray) ++ t109))) else (none)) else (none)) else (none)) else (if ((⟨#[48]⟩ : ByteArray) ++ t108).size + 1 ≤ 9223372036854775807 then (if (((⟨#[48]⟩ : ByteArray) ++ t108) ++ (⟨#[58]⟩ : ByteArray)).size + t109.size ≤ 9223372036854775807 then (some ((((⟨#[48]⟩ : ByteArray) ++ t108) ++ (⟨#[58]⟩ : ByteArray)) ++ t109)) else (none)) else (none))) else (none)) else (if (t109.size : Int) < 2 then (if 1 + t109.size ≤ 9223372036854775807 then (if t108.size + 1 ≤ 9223372036854775807 then (if (t108 ++ (⟨#[58]⟩ : ByteArray)).size + ((⟨#[48]⟩ : ByteArray) ++ t109).size ≤ 9223372036854775807 then (some ((t108 ++ (⟨#[58]⟩ : ByteArray)) ++ ((⟨#[48]⟩ : ByteArray) ++ t109))) else (none)) else (none)) else (none)) else (if t108.size + 1 ≤ 9223372036854775807 then (if (t108 ++ (⟨#[58]⟩ : ByteArray)).size + t109.size ≤ 9223372036854775807 then (some ((t108 ++ (⟨#[58]⟩ : ByteArray)) ++ t109)) else (none)) else (none)))))) else (some (⟨#[]⟩ : ByteArray)))) = some r := h
 clear h
 replace H := Option.bind_eq_some_iff.mp H
 obtain ⟨t107, A20, H⟩ := H
 replace H : (if t107 = true then ((spec_l01Num.f k (wrap64 (Int.tdiv a0 60))).bind fun t108 => ((spec_l01Num.f k (Int.tmod a0 60)).bind fun t109 => (if (t108.size : Int) < 2 then (if 1 + t108.size ≤ 9223372036854775807 then (if (t109.size : Int) < 2 then (if 1 + t109.size ≤ 9223372036854775807 then (if ((⟨#[48]⟩ : ByteArray) ++ t108).size + 1 ≤ 9223372036854775807 then (if (((⟨#[48]⟩ : ByteArray) ++ t108) ++ (⟨#[58]⟩ : ByteArray)).size + ((⟨#[48]⟩ : ByteArray) ++ t109).size ≤ 9223372036854775807 then (some ((((⟨#[48]⟩ : ByteArray) ++ t108) ++ (⟨#[58]⟩ : ByteArray)) ++ ((⟨#[48]⟩ : ByteArray) ++ t109))) else (none)) else (none)) else (none)) else (if ((⟨#[48]⟩ : ByteArray) ++ t108).size + 1 ≤ 9223372036854775807 then (if (((⟨#[48]⟩ : ByteArray) ++ t108) ++ (⟨#[58]⟩ : ByteArray)).size + t109.size ≤ 9223372036854775807 then (some ((((⟨#[48]⟩ : ByteArray) ++ t108) ++ (⟨#[58]⟩ : ByteArray)) ++ t109)) else (none)) else (none))) else (none)) else (if (t109.size : Int) < 2 then (if 1 + t109.size ≤ 9223372036854775807 then (if t108.size + 1 ≤ 9223372036854775807 then (if (t108 ++ (⟨#[58]⟩ : ByteArray)).size + ((⟨#[48]⟩ : ByteArray) ++ t109).size ≤ 9223372036854775807 then (some ((t108 ++ (⟨#[58]⟩ : ByteArray)) ++ ((⟨#[48]⟩ : ByteArray) ++ t109))) else (none)) else (none)) else (none)) else (if t108.size + 1 ≤ 9223372036854775807 then (if (t108 ++ (⟨#[58]⟩ : ByteArray)).size + t109.size ≤ 9223372036854775807 then (some ((t108 ++ (⟨#[58]⟩ : ByteArray)) ++ t109)) else (none)) else (none)))))) else (some (⟨#[]⟩ : ByteArray))) = some r := H
 have A2 := Aside0.mk A20
 clear A20
 by_cases c3 : t107 = true
 ·subst c3
  have H1 : ((spec_l01Num.f k (wrap64 (Int.tdiv a0 60))).bind fun t108 => ((spec_l01Num.f k (Int.tmod a0 60)).bind fun t109 => (if (t108.size : Int) < 2 then (if 1 + t108.size ≤ 9223372036854775807 then (if (t109.size : Int) < 2 then (if 1 + t109.size ≤ 9223372036854775807 then (if ((⟨#[48]⟩ : ByteArray) ++ t108).size + 1 ≤ 9223372036854775807 then (if (((⟨#[48]⟩ : ByteArray) ++ t108) ++ (⟨#[58]⟩ : ByteArray)).size + ((⟨#[48]⟩ : ByteArray) ++ t109).size ≤ 9223372036854775807 then (some ((((⟨#[48]⟩ : ByteArray) ++ t108) ++ (⟨#[58]⟩ : ByteArray)) ++ ((⟨#[48]⟩ : ByteArray) ++ t109))) else (none)) else (none)) else (none)) else (if ((⟨#[48]⟩ : ByteArray) ++ t108).size + 1 ≤ 9223372036854775807 then (if (((⟨#[48]⟩ : ByteArray) ++ t108) ++ (⟨#[58]⟩ : ByteArray)).size + t109.size ≤ 9223372036854775807 then (some ((((⟨#[48]⟩ : ByteArray) ++ t108) ++ (⟨#[58]⟩ : ByteArray)) ++ t109)) else (none)) else (none))) else (none)) else (if (t109.size : Int) < 2 then (if 1 + t109.size ≤ 9223372036854775807 then (if t108.size + 1 ≤ 9223372036854775807 then (if (t108 ++ (⟨#[58]⟩ : ByteArray)).size + ((⟨#[48]⟩ : ByteArray) ++ t109).size ≤ 9223372036854775807 then (some ((t108 ++ (⟨#[58]⟩ : ByteArray)) ++ ((⟨#[48]⟩ : ByteArray) ++ t109))) else (none)) else (none)) else (none)) else (if t108.size + 1 ≤ 9223372036854775807 then (if (t108 ++ (⟨#[58]⟩ : ByteArray)).size + t109.size ≤ 9223372036854775807 then (some ((t108 ++ (⟨#[58]⟩ : ByteArray)) ++ t109)) else (none)) else (none)))))) = some r := by (first | (rw [if_pos rfl] at H; exact H) | rfl)
  clear H
  have H := H1
  clear H1
  replace H := Option.bind_eq_some_iff.mp H
  obtain ⟨t108, A40, H⟩ := H
  replace H : ((spec_l01Num.f k (Int.tmod a0 60)).bind fun t109 => (if (t108.size : Int) < 2 then (if 1 + t108.size ≤ 9223372036854775807 then (if (t109.size : Int) < 2 then (if 1 + t109.size ≤ 9223372036854775807 then (if ((⟨#[48]⟩ : ByteArray) ++ t108).size + 1 ≤ 9223372036854775807 then (if (((⟨#[48]⟩ : ByteArray) ++ t108) ++ (⟨#[58]⟩ : ByteArray)).size + ((⟨#[48]⟩ : ByteArray) ++ t109).size ≤ 9223372036854775807 then (some ((((⟨#[48]⟩ : ByteArray) ++ t108) ++ (⟨#[58]⟩ : ByteArray)) ++ ((⟨#[48]⟩ : ByteArray) ++ t109))) else (none)) else (none)) else (none)) else (if ((⟨#[48]⟩ : ByteArray) ++ t108).size + 1 ≤ 9223372036854775807 then (if (((⟨#[48]⟩ : ByteArray) ++ t108) ++ (⟨#[58]⟩ : ByteArray)).size + t109.size ≤ 9223372036854775807 then (some ((((⟨#[48]⟩ : ByteArray) ++ t108) ++ (⟨#[58]⟩ : ByteArray)) ++ t109)) else (none)) else (none))) else (none)) else (if (t109.size : Int) < 2 then (if 1 + t109.size ≤ 9223372036854775807 then (if t108.size + 1 ≤ 9223372036854775807 then (if (t108 ++ (⟨#[58]⟩ : ByteArray)).size + ((⟨#[48]⟩ : ByteArray) ++ t109).size ≤ 9223372036854775807 then (some ((t108 ++ (⟨#[58]⟩ : ByteArray)) ++ ((⟨#[48]⟩ : ByteArray) ++ t109))) else (none)) else (none)) else (none)) else (if t108.size + 1 ≤ 9223372036854775807 then (if (t108 ++ (⟨#[58]⟩ : ByteArray)).size + t109.size ≤ 9223372036854775807 then (some ((t108 ++ (⟨#[58]⟩ : ByteArray)) ++ t109)) else (none)) else (none))))) = some r := H
  have A4 := Aside0.mk A40
  clear A40
  replace H := Option.bind_eq_some_iff.mp H
  obtain ⟨t109, A50, H⟩ := H
  replace H : (if (t108.size : Int) < 2 then (if 1 + t108.size ≤ 9223372036854775807 then (if (t109.size : Int) < 2 then (if 1 + t109.size ≤ 9223372036854775807 then (if ((⟨#[48]⟩ : ByteArray) ++ t108).size + 1 ≤ 9223372036854775807 then (if (((⟨#[48]⟩ : ByteArray) ++ t108) ++ (⟨#[58]⟩ : ByteArray)).size + ((⟨#[48]⟩ : ByteArray) ++ t109).size ≤ 9223372036854775807 then (some ((((⟨#[48]⟩ : ByteArray) ++ t108) ++ (⟨#[58]⟩ : ByteArray)) ++ ((⟨#[48]⟩ : ByteArray) ++ t109))) else (none)) else (none)) else (none)) else (if ((⟨#[48]⟩ : ByteArray) ++ t108).size + 1 ≤ 9223372036854775807 then (if (((⟨#[48]⟩ : ByteArray) ++ t108) ++ (⟨#[58]⟩ : ByteArray)).size + t109.size ≤ 9223372036854775807 then (some ((((⟨#[48]⟩ : ByteArray) ++ t108) ++ (⟨#[58]⟩ : ByteArray)) ++ t109)) else (none)) else (none))) else (none)) else (if (t109.size : Int) < 2 then (if 1 + t109.size ≤ 9223372036854775807 then (if t108.size + 1 ≤ 9223372036854775807 then (if (t108 ++ (⟨#[58]⟩ : ByteArray)).size + ((⟨#[48]⟩ : ByteArray) ++ t109).size ≤ 9223372036854775807 then (some ((t108 ++ (⟨#[58]⟩ : ByteArray)) ++ ((⟨#[48]⟩ : ByteArray) ++ t109))) else (none)) else (none)) else (none)) else (if t108.size + 1 ≤ 9223372036854775807 then (if (t108 ++ (⟨#[58]⟩ : ByteArray)).size + t109.size ≤ 9223372036854775807 then (some ((t108 ++ (⟨#[58]⟩ : ByteArray)) ++ t109)) else (none)) else (none)))) = some r := H
  have A5 := Aside0.mk A50
  clear A50
  by_cases c6 : (t108.size : Int) < 2
  ·rw [if_pos c6] at H
   have c6b0 : decide ((t108.size : Int) < 2) = true := decide_eq_true c6
   have c6b1 : decide (t108.size < 2) = true := decide_eq_true (by omega)
   clear c6
   by_cases c7 : 1 + t108.size ≤ 9223372036854775807
   ·rw [if_pos c7] at H
    have c7b0 := eq_true c7
    have c7b1 : decide (1 + t108.size ≤ 9223372036854775807) = true := decide_eq_true c7
    try have c7b2 : (9223372036854775807 < 1 + t108.size) = False := eq_false (Nat.not_lt.2 c7)
    have c7n := c7
    try simp only [ByteArray.size_append, show (⟨#[48]⟩ : ByteArray).size = 1 from rfl, show (⟨#[58]⟩ : ByteArray).size = 1 from rfl, show (⟨#[45]⟩ : ByteArray).size = 1 from rfl] at c7n
    by_cases c8 : (t109.size : Int) < 2
    ·rw [if_pos c8] at H
     have c8b0 : decide ((t109.size : Int) < 2) = true := decide_eq_true c8
     have c8b1 : decide (t109.size < 2) = true := decide_eq_true (by omega)
     clear c8
     by_cases c9 : 1 + t109.size ≤ 9223372036854775807
     ·rw [if_pos c9] at H
      have c9b0 := eq_true c9
      have c9b1 : decide (1 + t109.size ≤ 9223372036854775807) = true := decide_eq_true c9
      try have c9b2 : (9223372036854775807 < 1 + t109.size) = False := eq_false (Nat.not_lt.2 c9)
      have c9n := c9
      try simp only [ByteArray.size_append, show (⟨#[48]⟩ : ByteArray).size = 1 from rfl, show (⟨#[58]⟩ : ByteArray).size = 1 from rfl, show (⟨#[45]⟩ : ByteArray).size = 1 from rfl] at c9n
      by_cases c10 : ((⟨#[48]⟩ : ByteArray) ++ t108).size + 1 ≤ 9223372036854775807
      ·rw [if_pos c10] at H
       have c10b0 := eq_true c10
       have c10b1 : decide (((⟨#[48]⟩ : ByteArray) ++ t108).size + 1 ≤ 9223372036854775807) = true := decide_eq_true c10
       try have c10b2 : (9223372036854775807 < ((⟨#[48]⟩ : ByteArray) ++ t108).size + 1) = False := eq_false (Nat.not_lt.2 c10)
       have c10n := c10
       try simp only [ByteArray.size_append, show (⟨#[48]⟩ : ByteArray).size = 1 from rfl, show (⟨#[58]⟩ : ByteArray).size = 1 from rfl, show (⟨#[45]⟩ : ByteArray).size = 1 from rfl] at c10n
       by_cases c11 : (((⟨#[48]⟩ : ByteArray) ++ t108) ++ (⟨#[58]⟩ : ByteArray)).size + ((⟨#[48]⟩ : ByteArray) ++ t109).size ≤ 9223372036854775807
       ·rw [if_pos c11] at H
        have c11b0 := eq_true c11
        have c11b1 : decide ((((⟨#[48]⟩ : ByteArray) ++ t108) ++ (⟨#[58]⟩ : ByteArray)).size + ((⟨#[48]⟩ : ByteArray) ++ t109).size ≤ 9223372036854775807) = true := decide_eq_true c11
        try have c11b2 : (9223372036854775807 < (((⟨#[48]⟩ : ByteArray) ++ t108) ++ (⟨#[58]⟩ : ByteArray)).size + ((⟨#[48]⟩ : ByteArray) ++ t109).size) = False := eq_false (Nat.not_lt.2 c11)
        have c11n := c11
        try simp only [ByteArray.size_append, show (⟨#[48]⟩ : ByteArray).size = 1 from rfl, show (⟨#[58]⟩ : ByteArray).size = 1 from rfl, show (⟨#[45]⟩ : ByteArray).size = 1 from rfl] at c11n
        obtain rfl := Option.some.inj H
        go_enter Tryd.func11, Tryd.ntmps11
        go_wp2_with (first | ((with_reducible refine gate_callee (f := 12) rfl ?_); refine goesL_ (some 6) rfl rfl Tryd.func12 (by kernel_rfl) rfl #[.int .i64 a0, .int .i64 0, .int .i64 100000] rfl (by (try simp only [List.map_toArray, List.map_cons, List.map_nil]); first | done | rfl | (simp only [List.length_drop, List.length_take]; rfl)) ?_; (with_reducible refine (spec_l01In.calls a0 0 100000 true _ A2.out).mono ?_); rintro e w' ⟨rfl, ⟨nd, rfl⟩⟩; refine ⟨_, rfl, ?_⟩) | ((with_reducible refine gate_callee (f := 16) rfl ?_); refine goesL_ (some 10) rfl rfl Tryd.func16 (by kernel_rfl) rfl #[.int .i64 (wrap64 (Int.tdiv a0 60))] rfl (by (try simp only [List.map_toArray, List.map_cons, List.map_nil]); first | done | rfl | (simp only [List.length_drop, List.length_take]; rfl)) ?_; (with_reducible refine (spec_l01Num.calls k (wrap64 (Int.tdiv a0 60)) t108 _ A4.out).mono ?_); rintro e w12 ⟨rfl, hb⟩; refine ⟨_, rfl, ?_⟩; have n0_ := Aside0.mk (below_step (by repeat (first | (with_reducible first | exact HB.out | apply below_alloc | apply pw_below_drewN | apply below_drew1) | exact HB.out)) hb); clear HB; have HB := n0_; clear n0_; (try clear hb); (try clear hb2); (try clear hk); (try clear hi)) | ((with_reducible refine gate_callee (f := 16) rfl ?_); refine goesL_ (some 13) rfl rfl Tryd.func16 (by kernel_rfl) rfl #[.int .i64 (Int.tmod a0 60)] rfl (by (try simp only [List.map_toArray, List.map_cons, List.map_nil]); first | done | rfl | (simp only [List.length_drop, List.length_take]; rfl)) ?_; (with_reducible refine (spec_l01Num.calls k (Int.tmod a0 60) t109 _ A5.out).mono ?_); rintro e w13 ⟨rfl, hb⟩; refine ⟨_, rfl, ?_⟩; have n0_ := Aside0.mk (below_step (by repeat (first | (with_reducible first | exact HB.out | apply below_alloc | apply pw_below_drewN | apply below_drew1) | exact HB.out)) hb); clear HB; have HB := n0_; clear n0_; (try clear hb); (try clear hb2); (try clear hk); (try clear hi)))
        all_goals (first | (exfalso; omega) | skip)
        go_ret
        exact ⟨by first | rfl | (simp [errW_none, errW_some] <;> rfl) | (simp [*, errW_none, errW_some] <;> rfl), by repeat (first | (with_reducible first | exact HB.out | apply below_alloc | apply pw_below_drewN | apply below_drew1) | exact HB.out)⟩
       ·rw [if_neg c11] at H
        exact absurd H (by simp)
      ·rw [if_neg c10] at H
       exact absurd H (by simp)
     ·rw [if_neg c9] at H
      exact absurd H (by simp)
    ·rw [if_neg c8] at H
     have c8b0 : decide ((t109.size : Int) < 2) = false := decide_eq_false c8
     have c8b1 : decide (t109.size < 2) = false := decide_eq_false (by omega)
     clear c8
     by_cases c14 : ((⟨#[48]⟩ : ByteArray) ++ t108).size + 1 ≤ 9223372036854775807
     ·rw [if_pos c14] at H
      have c14b0 := eq_true c14
      have c14b1 : decide (((⟨#[48]⟩ : ByteArray) ++ t108).size + 1 ≤ 9223372036854775807) = true := decide_eq_true c14
      try have c14b2 : (9223372036854775807 < ((⟨#[48]⟩ : ByteArray) ++ t108).size + 1) = False := eq_false (Nat.not_lt.2 c14)
      have c14n := c14
      try simp only [ByteArray.size_append, show (⟨#[48]⟩ : ByteArray).size = 1 from rfl, show (⟨#[58]⟩ : ByteArray).size = 1 from rfl, show (⟨#[45]⟩ : ByteArray).size = 1 from rfl] at c14n
      by_cases c15 : (((⟨#[48]⟩ : ByteArray) ++ t108) ++ (⟨#[58]⟩ : ByteArray)).size + t109.size ≤ 9223372036854775807
      ·rw [if_pos c15] at H
       have c15b0 := eq_true c15
       have c15b1 : decide ((((⟨#[48]⟩ : ByteArray) ++ t108) ++ (⟨#[58]⟩ : ByteArray)).size + t109.size ≤ 9223372036854775807) = true := decide_eq_true c15
       try have c15b2 : (9223372036854775807 < (((⟨#[48]⟩ : ByteArray) ++ t108) ++ (⟨#[58]⟩ : ByteArray)).size + t109.size) = False := eq_false (Nat.not_lt.2 c15)
       have c15n := c15
       try simp only [ByteArray.size_append, show (⟨#[48]⟩ : ByteArray).size = 1 from rfl, show (⟨#[58]⟩ : ByteArray).size = 1 from rfl, show (⟨#[45]⟩ : ByteArray).size = 1 from rfl] at c15n
       obtain rfl := Option.some.inj H
       go_enter Tryd.func11, Tryd.ntmps11
       go_wp2_with (first | ((with_reducible refine gate_callee (f := 12) rfl ?_); refine goesL_ (some 6) rfl rfl Tryd.func12 (by kernel_rfl) rfl #[.int .i64 a0, .int .i64 0, .int .i64 100000] rfl (by (try simp only [List.map_toArray, List.map_cons, List.map_nil]); first | done | rfl | (simp only [List.length_drop, List.length_take]; rfl)) ?_; (with_reducible refine (spec_l01In.calls a0 0 100000 true _ A2.out).mono ?_); rintro e w' ⟨rfl, ⟨nd, rfl⟩⟩; refine ⟨_, rfl, ?_⟩) | ((with_reducible refine gate_callee (f := 16) rfl ?_); refine goesL_ (some 10) rfl rfl Tryd.func16 (by kernel_rfl) rfl #[.int .i64 (wrap64 (Int.tdiv a0 60))] rfl (by (try simp only [List.map_toArray, List.map_cons, List.map_nil]); first | done | rfl | (simp only [List.length_drop, List.length_take]; rfl)) ?_; (with_reducible refine (spec_l01Num.calls k (wrap64 (Int.tdiv a0 60)) t108 _ A4.out).mono ?_); rintro e w16 ⟨rfl, hb⟩; refine ⟨_, rfl, ?_⟩; have n0_ := Aside0.mk (below_step (by repeat (first | (with_reducible first | exact HB.out | apply below_alloc | apply pw_below_drewN | apply below_drew1) | exact HB.out)) hb); clear HB; have HB := n0_; clear n0_; (try clear hb); (try clear hb2); (try clear hk); (try clear hi)) | ((with_reducible refine gate_callee (f := 16) rfl ?_); refine goesL_ (some 13) rfl rfl Tryd.func16 (by kernel_rfl) rfl #[.int .i64 (Int.tmod a0 60)] rfl (by (try simp only [List.map_toArray, List.map_cons, List.map_nil]); first | done | rfl | (simp only [List.length_drop, List.length_take]; rfl)) ?_; (with_reducible refine (spec_l01Num.calls k (Int.tmod a0 60) t109 _ A5.out).mono ?_); rintro e w17 ⟨rfl, hb⟩; refine ⟨_, rfl, ?_⟩; have n0_ := Aside0.mk (below_step (by repeat (first | (with_reducible first | exact HB.out | apply below_alloc | apply pw_below_drewN | apply below_drew1) | exact HB.out)) hb); clear HB; have HB := n0_; clear n0_; (try clear hb); (try clear hb2); (try clear hk); (try clear hi)))
       all_goals (first | (exfalso; omega) | skip)
       go_ret
       exact ⟨by first | rfl | (simp [errW_none, errW_some] <;> rfl) | (simp [*, errW_none, errW_some] <;> rfl), by repeat (first | (with_reducible first | exact HB.out | apply below_alloc | apply pw_below_drewN | apply below_drew1) | exact HB.out)⟩
      ·rw [if_neg c15] at H
       exact absurd H (by simp)
     ·rw [if_neg c14] at H
      exact absurd H (by simp)
   ·rw [if_neg c7] at H
    exact absurd H (by simp)
  ·rw [if_neg c6] at H
   have c6b0 : decide ((t108.size : Int) < 2) = false := decide_eq_false c6
   have c6b1 : decide (t108.size < 2) = false := decide_eq_false (by omega)
   clear c6
   by_cases c18 : (t109.size : Int) < 2
   ·rw [if_pos c18] at H
    have c18b0 : decide ((t109.size : Int) < 2) = true := decide_eq_true c18
    have c18b1 : decide (t109.size < 2) = true := decide_eq_true (by omega)
    clear c18
    by_cases c19 : 1 + t109.size ≤ 9223372036854775807
    ·rw [if_pos c19] at H
     have c19b0 := eq_true c19
     have c19b1 : decide (1 + t109.size ≤ 9223372036854775807) = true := decide_eq_true c19
     try have c19b2 : (9223372036854775807 < 1 + t109.size) = False := eq_false (Nat.not_lt.2 c19)
     have c19n := c19
     try simp only [ByteArray.size_append, show (⟨#[48]⟩ : ByteArray).size = 1 from rfl, show (⟨#[58]⟩ : ByteArray).size = 1 from rfl, show (⟨#[45]⟩ : ByteArray).size = 1 from rfl] at c19n
     by_cases c20 : t108.size + 1 ≤ 9223372036854775807
     ·rw [if_pos c20] at H
      have c20b0 := eq_true c20
      have c20b1 : decide (t108.size + 1 ≤ 9223372036854775807) = true := decide_eq_true c20
      try have c20b2 : (9223372036854775807 < t108.size + 1) = False := eq_false (Nat.not_lt.2 c20)
      have c20n := c20
      try simp only [ByteArray.size_append, show (⟨#[48]⟩ : ByteArray).size = 1 from rfl, show (⟨#[58]⟩ : ByteArray).size = 1 from rfl, show (⟨#[45]⟩ : ByteArray).size = 1 from rfl] at c20n
      by_cases c21 : (t108 ++ (⟨#[58]⟩ : ByteArray)).size + ((⟨#[48]⟩ : ByteArray) ++ t109).size ≤ 9223372036854775807
      ·rw [if_pos c21] at H
       have c21b0 := eq_true c21
       have c21b1 : decide ((t108 ++ (⟨#[58]⟩ : ByteArray)).size + ((⟨#[48]⟩ : ByteArray) ++ t109).size ≤ 9223372036854775807) = true := decide_eq_true c21
       try have c21b2 : (9223372036854775807 < (t108 ++ (⟨#[58]⟩ : ByteArray)).size + ((⟨#[48]⟩ : ByteArray) ++ t109).size) = False := eq_false (Nat.not_lt.2 c21)
       have c21n := c21
       try simp only [ByteArray.size_append, show (⟨#[48]⟩ : ByteArray).size = 1 from rfl, show (⟨#[58]⟩ : ByteArray).size = 1 from rfl, show (⟨#[45]⟩ : ByteArray).size = 1 from rfl] at c21n
       obtain rfl := Option.some.inj H
       go_enter Tryd.func11, Tryd.ntmps11
       go_wp2_with (first | ((with_reducible refine gate_callee (f := 12) rfl ?_); refine goesL_ (some 6) rfl rfl Tryd.func12 (by kernel_rfl) rfl #[.int .i64 a0, .int .i64 0, .int .i64 100000] rfl (by (try simp only [List.map_toArray, List.map_cons, List.map_nil]); first | done | rfl | (simp only [List.length_drop, List.length_take]; rfl)) ?_; (with_reducible refine (spec_l01In.calls a0 0 100000 true _ A2.out).mono ?_); rintro e w' ⟨rfl, ⟨nd, rfl⟩⟩; refine ⟨_, rfl, ?_⟩) | ((with_reducible refine gate_callee (f := 16) rfl ?_); refine goesL_ (some 10) rfl rfl Tryd.func16 (by kernel_rfl) rfl #[.int .i64 (wrap64 (Int.tdiv a0 60))] rfl (by (try simp only [List.map_toArray, List.map_cons, List.map_nil]); first | done | rfl | (simp only [List.length_drop, List.length_take]; rfl)) ?_; (with_reducible refine (spec_l01Num.calls k (wrap64 (Int.tdiv a0 60)) t108 _ A4.out).mono ?_); rintro e w22 ⟨rfl, hb⟩; refine ⟨_, rfl, ?_⟩; have n0_ := Aside0.mk (below_step (by repeat (first | (with_reducible first | exact HB.out | apply below_alloc | apply pw_below_drewN | apply below_drew1) | exact HB.out)) hb); clear HB; have HB := n0_; clear n0_; (try clear hb); (try clear hb2); (try clear hk); (try clear hi)) | ((with_reducible refine gate_callee (f := 16) rfl ?_); refine goesL_ (some 13) rfl rfl Tryd.func16 (by kernel_rfl) rfl #[.int .i64 (Int.tmod a0 60)] rfl (by (try simp only [List.map_toArray, List.map_cons, List.map_nil]); first | done | rfl | (simp only [List.length_drop, List.length_take]; rfl)) ?_; (with_reducible refine (spec_l01Num.calls k (Int.tmod a0 60) t109 _ A5.out).mono ?_); rintro e w23 ⟨rfl, hb⟩; refine ⟨_, rfl, ?_⟩; have n0_ := Aside0.mk (below_step (by repeat (first | (with_reducible first | exact HB.out | apply below_alloc | apply pw_below_drewN | apply below_drew1) | exact HB.out)) hb); clear HB; have HB := n0_; clear n0_; (try clear hb); (try clear hb2); (try clear hk); (try clear hi)))
       all_goals (first | (exfalso; omega) | skip)
       go_ret
       exact ⟨by first | rfl | (simp [errW_none, errW_some] <;> rfl) | (simp [*, errW_none, errW_some] <;> rfl), by repeat (first | (with_reducible first | exact HB.out | apply below_alloc | apply pw_below_drewN | apply below_drew1) | exact HB.out)⟩
      ·rw [if_neg c21] at H
       exact absurd H (by simp)
     ·rw [if_neg c20] at H
      exact absurd H (by simp)
    ·rw [if_neg c19] at H
     exact absurd H (by simp)
   ·rw [if_neg c18] at H
    have c18b0 : decide ((t109.size : Int) < 2) = false := decide_eq_false c18
    have c18b1 : decide (t109.size < 2) = false := decide_eq_false (by omega)
    clear c18
    by_cases c24 : t108.size + 1 ≤ 9223372036854775807
    ·rw [if_pos c24] at H
     have c24b0 := eq_true c24
     have c24b1 : decide (t108.size + 1 ≤ 9223372036854775807) = true := decide_eq_true c24
     try have c24b2 : (9223372036854775807 < t108.size + 1) = False := eq_false (Nat.not_lt.2 c24)
     have c24n := c24
     try simp only [ByteArray.size_append, show (⟨#[48]⟩ : ByteArray).size = 1 from rfl, show (⟨#[58]⟩ : ByteArray).size = 1 from rfl, show (⟨#[45]⟩ : ByteArray).size = 1 from rfl] at c24n
     by_cases c25 : (t108 ++ (⟨#[58]⟩ : ByteArray)).size + t109.size ≤ 9223372036854775807
     ·rw [if_pos c25] at H
      have c25b0 := eq_true c25
      have c25b1 : decide ((t108 ++ (⟨#[58]⟩ : ByteArray)).size + t109.size ≤ 9223372036854775807) = true := decide_eq_true c25
      try have c25b2 : (9223372036854775807 < (t108 ++ (⟨#[58]⟩ : ByteArray)).size + t109.size) = False := eq_false (Nat.not_lt.2 c25)
      have c25n := c25
      try simp only [ByteArray.size_append, show (⟨#[48]⟩ : ByteArray).size = 1 from rfl, show (⟨#[58]⟩ : ByteArray).size = 1 from rfl, show (⟨#[45]⟩ : ByteArray).size = 1 from rfl] at c25n
      obtain rfl := Option.some.inj H
      go_enter Tryd.func11, Tryd.ntmps11
      go_wp2_with (first | ((with_reducible refine gate_callee (f := 12) rfl ?_); refine goesL_ (some 6) rfl rfl Tryd.func12 (by kernel_rfl) rfl #[.int .i64 a0, .int .i64 0, .int .i64 100000] rfl (by (try simp only [List.map_toArray, List.map_cons, List.map_nil]); first | done | rfl | (simp only [List.length_drop, List.length_take]; rfl)) ?_; (with_reducible refine (spec_l01In.calls a0 0 100000 true _ A2.out).mono ?_); rintro e w' ⟨rfl, ⟨nd, rfl⟩⟩; refine ⟨_, rfl, ?_⟩) | ((with_reducible refine gate_callee (f := 16) rfl ?_); refine goesL_ (some 10) rfl rfl Tryd.func16 (by kernel_rfl) rfl #[.int .i64 (wrap64 (Int.tdiv a0 60))] rfl (by (try simp only [List.map_toArray, List.map_cons, List.map_nil]); first | done | rfl | (simp only [List.length_drop, List.length_take]; rfl)) ?_; (with_reducible refine (spec_l01Num.calls k (wrap64 (Int.tdiv a0 60)) t108 _ A4.out).mono ?_); rintro e w26 ⟨rfl, hb⟩; refine ⟨_, rfl, ?_⟩; have n0_ := Aside0.mk (below_step (by repeat (first | (with_reducible first | exact HB.out | apply below_alloc | apply pw_below_drewN | apply below_drew1) | exact HB.out)) hb); clear HB; have HB := n0_; clear n0_; (try clear hb); (try clear hb2); (try clear hk); (try clear hi)) | ((with_reducible refine gate_callee (f := 16) rfl ?_); refine goesL_ (some 13) rfl rfl Tryd.func16 (by kernel_rfl) rfl #[.int .i64 (Int.tmod a0 60)] rfl (by (try simp only [List.map_toArray, List.map_cons, List.map_nil]); first | done | rfl | (simp only [List.length_drop, List.length_take]; rfl)) ?_; (with_reducible refine (spec_l01Num.calls k (Int.tmod a0 60) t109 _ A5.out).mono ?_); rintro e w27 ⟨rfl, hb⟩; refine ⟨_, rfl, ?_⟩; have n0_ := Aside0.mk (below_step (by repeat (first | (with_reducible first | exact HB.out | apply below_alloc | apply pw_below_drewN | apply below_drew1) | exact HB.out)) hb); clear HB; have HB := n0_; clear n0_; (try clear hb); (try clear hb2); (try clear hk); (try clear hi)))
      all_goals (first | (exfalso; omega) | skip)
      go_ret
      exact ⟨by first | rfl | (simp [errW_none, errW_some] <;> rfl) | (simp [*, errW_none, errW_some] <;> rfl), by repeat (first | (with_reducible first | exact HB.out | apply below_alloc | apply pw_below_drewN | apply below_drew1) | exact HB.out)⟩
     ·rw [if_neg c25] at H
      exact absurd H (by simp)
    ·rw [if_neg c24] at H
     exact absurd H (by simp)
 ·replace c3 := Bool.eq_false_iff.mpr c3
  subst c3
  have H1 : (some (⟨#[]⟩ : ByteArray)) = some r := by (first | (rw [if_neg (show ¬ (false = true) by decide)] at H; exact H) | rfl)
  clear H
  have H := H1
  clear H1
  obtain rfl := Option.some.inj H
  go_enter Tryd.func11, Tryd.ntmps11
  go_wp2_with (first | ((with_reducible refine gate_callee (f := 12) rfl ?_); refine goesL_ (some 6) rfl rfl Tryd.func12 (by kernel_rfl) rfl #[.int .i64 a0, .int .i64 0, .int .i64 100000] rfl (by (try simp only [List.map_toArray, List.map_cons, List.map_nil]); first | done | rfl | (simp only [List.length_drop, List.length_take]; rfl)) ?_; (with_reducible refine (spec_l01In.calls a0 0 100000 false _ A2.out).mono ?_); rintro e w' ⟨rfl, ⟨nd, rfl⟩⟩; refine ⟨_, rfl, ?_⟩))
  all_goals (first | (exfalso; omega) | skip)
  go_ret
  exact ⟨by first | rfl | (simp [errW_none, errW_some] <;> rfl) | (simp [*, errW_none, errW_some] <;> rfl), by repeat (first | (with_reducible first | exact HB.out | apply below_alloc | apply pw_below_drewN | apply below_drew1) | exact HB.out)⟩

/-! ### spec_ReadTime: function 6 -/
def spec_ReadTime.l0 : Nat → ByteArray → Int → Int → Option (Int)
 | 0, _, _, _ => none
 | k + 1, x0, x3, x4 => if x4 < (wrap64 ((x0.size : Int) - 3)) then (if 0 ≤ x4 then (if x4 < (x0.size : Int) then (spec_ReadTime.l0 k x0 (wrap64 ((wrap64 ((wrap64 (x3 * 10)) + (wrap64 (bt x0 x4)))) - 48)) (wrap64 (x4 + 1))) else (none)) else (none)) else (if 0 ≤ (wrap64 ((x0.size : Int) - 2)) then (if (wrap64 ((x0.size : Int) - 2)) < (x0.size : Int) then (if 0 ≤ (wrap64 ((x0.size : Int) - 1)) then (if (wrap64 ((x0.size : Int) - 1)) < (x0.size : Int) then ((spec_TimeText.f k (wrap64 ((wrap64 ((wrap64 ((wrap64 (x3 * 60)) + (wrap64 ((wrap64 ((wrap64 (bt x0 (wrap64 ((x0.size : Int) - 2)))) - 48)) * 10)))) + (wrap64 (bt x0 (wrap64 ((x0.size : Int) - 1)))))) - 48))).bind fun t111 => (if t111.toList = x0.toList then (some (wrap64 ((wrap64 ((wrap64 ((wrap64 (x3 * 60)) + (wrap64 ((wrap64 ((wrap64 (bt x0 (wrap64 ((x0.size : Int) - 2)))) - 48)) * 10)))) + (wrap64 (bt x0 (wrap64 ((x0.size : Int) - 1)))))) - 48))) else (some (-1)))) else (none)) else (none)) else (none)) else (none))
def spec_ReadTime.f (k : Nat) (a0 : ByteArray) : Option (Int) := (spec_l01In.f (a0.size : Int) 5 7).bind fun t110 => (if t110 = true then (spec_ReadTime.l0 k a0 0 0) else (some (-1)))
theorem spec_ReadTime.mono_l : ∀ k, (∀ y0 y1 y2, LeO (spec_ReadTime.l0 k y0 y1 y2) (spec_ReadTime.l0 (k + 1) y0 y1 y2))
 | 0 => fun _ _ _ r h => by simp [spec_ReadTime.l0] at h
 | k + 1 => by
  have ih0 := spec_ReadTime.mono_l k
  ·intro y0 y1 y2
   unfold spec_ReadTime.l0
   repeat' first
   | (with_reducible exact ih0 _ _ _)
   | (with_reducible exact spec_TimeText.mono _ _)
   | (with_reducible exact LeO.refl _)
   | (with_reducible exact LeO.none _)
   | (with_reducible refine LeO.ite ?_ ?_)
   | (with_reducible refine LeO.bind ?_ (fun _ => ?_))
   | exact ih0 _ _ _
   | exact spec_TimeText.mono _ _
   | exact LeO.none _
   | refine LeO.ite ?_ ?_
   | refine LeO.bind ?_ (fun _ => ?_)
theorem spec_ReadTime.mono : ∀ a0 k, LeO (spec_ReadTime.f k a0) (spec_ReadTime.f (k + 1) a0) := by
 intro a0 k
 have ih0 := spec_ReadTime.mono_l k
 unfold spec_ReadTime.f
 repeat' first
   | (with_reducible exact ih0 _ _ _)
   | (with_reducible exact spec_TimeText.mono _ _)
   | (with_reducible exact LeO.refl _)
   | (with_reducible exact LeO.none _)
   | (with_reducible refine LeO.ite ?_ ?_)
   | (with_reducible refine LeO.bind ?_ (fun _ => ?_))
   | exact ih0 _ _ _
   | exact spec_TimeText.mono _ _
   | exact LeO.none _
   | refine LeO.ite ?_ ?_
   | refine LeO.bind ?_ (fun _ => ?_)
set_option maxHeartbeats 8000000 in
set_option maxRecDepth 100000 in
theorem spec_ReadTime.calls (k : Nat) (a0 : ByteArray) (r : Int) (w : World) (h : spec_ReadTime.f k a0 = some r) :
  Calls Tryd.prog 6 #[.string a0] w fun e w' => e = .returned (.int .i64 r) ∧ Below w.heap.size w w' := by
 have HB := Aside0.mk (Below.refl w.heap.size w)
 have H : ((spec_l01In.f (a0.size : Int) 5 7).bind fun t110 => (if t110 = true then (spec_ReadTime.l0 k a0 0 0) else (some (-1)))) = some r := h
 clear h
 replace H := Option.bind_eq_some_iff.mp H
 obtain ⟨t110, A20, H⟩ := H
 replace H : (if t110 = true then (spec_ReadTime.l0 k a0 0 0) else (some (-1))) = some r := H
 have A2 := Aside0.mk A20
 clear A20
 by_cases c3 : t110 = true
 ·subst c3
  have H1 : (spec_ReadTime.l0 k a0 0 0) = some r := by (first | (rw [if_pos rfl] at H; exact H) | rfl)
  clear H
  have H := H1
  clear H1
  have H' := Aside0.mk H
  clear H
  go_enter Tryd.func6, Tryd.ntmps6
  go_wp2_with (first | (go_at_call 12; (with_reducible refine (spec_l01In.calls (a0.size : Int) 5 7 true _ A2.out).mono ?_); rintro e w' ⟨rfl, ⟨nd, rfl⟩⟩; (try first | exact ⟨rfl, _, World.drewN_drewN _ _ _⟩ | exact ⟨rfl, _, Eq.trans (World.drewN_drewN _ _ _) (congrArg (World.drewN _) (Nat.add_assoc _ _ _))⟩)))
  repeat (go_quiet (first | (go_at_call 12; (with_reducible refine (spec_l01In.calls (a0.size : Int) 5 7 true _ A2.out).mono ?_); rintro e w' ⟨rfl, ⟨nd, rfl⟩⟩; (try first | exact ⟨rfl, _, World.drewN_drewN _ _ _⟩ | exact ⟨rfl, _, Eq.trans (World.drewN_drewN _ _ _) (congrArg (World.drewN _) (Nat.add_assoc _ _ _))⟩))); try go_wp2_with (first | (go_at_call 12; (with_reducible refine (spec_l01In.calls (a0.size : Int) 5 7 true _ A2.out).mono ?_); rintro e w' ⟨rfl, ⟨nd, rfl⟩⟩; (try first | exact ⟨rfl, _, World.drewN_drewN _ _ _⟩ | exact ⟨rfl, _, Eq.trans (World.drewN_drewN _ _ _) (congrArg (World.drewN _) (Nat.add_assoc _ _ _))⟩))))
  go_loopg [3, 4] k (fun kq v3 v4 w' => ∃ (x3_1 : Int) (x4_1 : Int), v3 = .int .i64 x3_1 ∧ v4 = .int .i64 x4_1 ∧ Aside0 (spec_ReadTime.l0 kq a0 x3_1 x4_1 = some r) ∧ Aside0 (kq ≤ k) ∧ Aside0 (Below w.heap.size w w'))
  case atStart => exact ⟨(0), (0), (by first | rfl | (simp; done) | (simp [*]; done)), (by first | rfl | (simp; done) | (simp [*]; done)), H', ⟨Nat.le_refl _⟩, ⟨by repeat (first | (with_reducible first | exact HB.out | apply below_alloc | apply pw_below_drewN | apply below_drew1) | exact HB.out)⟩⟩
  case round =>
   clear H'
   try clear p2
   try clear c3
   obtain ⟨x3_1, x4_1, rfl, rfl, HA, HK1, HB⟩ := hrel
   cases gk with
   | zero => exact absurd HA.out (by simp [spec_ReadTime.l0])
   | succ k1 =>
    have H := HA.out
    clear HA
    simp only [spec_ReadTime.l0] at H
    by_cases c4 : x4_1 < (wrap64 ((a0.size : Int) - 3))
    ·rw [if_pos c4] at H
     have c4b0 : decide (x4_1 < (wrap64 ((a0.size : Int) - 3))) = true := decide_eq_true c4
     clear c4
     by_cases c5 : 0 ≤ x4_1
     ·rw [if_pos c5] at H
      have c5b0 : decide (0 ≤ x4_1) = true := decide_eq_true c5
      clear c5
      by_cases c6 : x4_1 < (a0.size : Int)
      ·rw [if_pos c6] at H
       have c6b0 : decide (x4_1 < (a0.size : Int)) = true := decide_eq_true c6
       clear c6
       have H' := Aside0.mk H
       clear H
       have p7 : 0 ≤ (x4_1 : Int) := of_decide_eq_true (by first | (with_reducible assumption) | assumption)
       have q7 : x4_1 < (a0.size : Int) := of_decide_eq_true (by first | (with_reducible assumption) | assumption)
       have hx7 := bt_at a0 x4_1
       replace p7 := eq_true p7
       replace q7 := eq_true q7
       go_wp2
       repeat (go_quiet (fail); try go_wp2)
       all_goals (first | (exfalso; omega) | skip)
       go_roundg k1
       case measure => have := HK1.out; omega
       case rel => exact ⟨(wrap64 ((wrap64 ((wrap64 (x3_1 * 10)) + (wrap64 (bt a0 x4_1)))) - 48)), (wrap64 (x4_1 + 1)), (by first | rfl | (simp; done) | (simp [*]; done)), (by first | rfl | (simp; done) | (simp [*]; done)), H', ⟨by have := HK1.out; omega⟩, ⟨by repeat (first | (with_reducible first | exact HB.out | apply below_alloc | apply pw_below_drewN | apply below_drew1) | exact HB.out)⟩⟩
      ·rw [if_neg c6] at H
       exact absurd H (by simp)
     ·rw [if_neg c5] at H
      exact absurd H (by simp)
    ·rw [if_neg c4] at H
     have c4b0 : decide (x4_1 < (wrap64 ((a0.size : Int) - 3))) = false := decide_eq_false c4
     clear c4
     obtain ⟨ji8, hji8⟩ : ∃ j_ : Int, (wrap64 ((a0.size : Int) - 2)) = j_ := ⟨_, rfl⟩
     replace H : (if 0 ≤ (ji8) then (if (ji8) < (a0.size : Int) then (if 0 ≤ (wrap64 ((a0.size : Int) - 1)) then (if (wrap64 ((a0.size : Int) - 1)) < (a0.size : Int) then ((spec_TimeText.f k1 (wrap64 ((wrap64 ((wrap64 ((wrap64 (x3_1 * 60)) + (wrap64 ((wrap64 ((wrap64 (bt a0 (ji8))) - 48)) * 10)))) + (wrap64 (bt a0 (wrap64 ((a0.size : Int) - 1)))))) - 48))).bind fun t111 => (if t111.toList = a0.toList then (some (wrap64 ((wrap64 ((wrap64 ((wrap64 (x3_1 * 60)) + (wrap64 ((wrap64 ((wrap64 (bt a0 (ji8))) - 48)) * 10)))) + (wrap64 (bt a0 (wrap64 ((a0.size : Int) - 1)))))) - 48))) else (some (-1)))) else (none)) else (none)) else (none)) else (none)) = some r := by first | (rw [hji8] at H; exact H) | (simp only [hji8] at H ⊢; exact H)
     have hji8w : (IntKind.i64.wrap ((a0.size : Int) - 2)) = ji8 := (i64_w _).trans hji8
     by_cases c9 : 0 ≤ (ji8)
     ·rw [if_pos c9] at H
      have c9b0 : decide (0 ≤ (ji8)) = true := decide_eq_true c9
      clear c9
      by_cases c10 : (ji8) < (a0.size : Int)
      ·rw [if_pos c10] at H
       have c10b0 : decide ((ji8) < (a0.size : Int)) = true := decide_eq_true c10
       clear c10
       obtain ⟨ji12, hji12⟩ : ∃ j_ : Int, (wrap64 ((a0.size : Int) - 1)) = j_ := ⟨_, rfl⟩
       replace H : (if 0 ≤ (ji12) then (if (ji12) < (a0.size : Int) then ((spec_TimeText.f k1 (wrap64 ((wrap64 ((wrap64 ((wrap64 (x3_1 * 60)) + (wrap64 ((wrap64 ((wrap64 (bt a0 (ji8))) - 48)) * 10)))) + (wrap64 (bt a0 (ji12))))) - 48))).bind fun t111 => (if t111.toList = a0.toList then (some (wrap64 ((wrap64 ((wrap64 ((wrap64 (x3_1 * 60)) + (wrap64 ((wrap64 ((wrap64 (bt a0 (ji8))) - 48)) * 10)))) + (wrap64 (bt a0 (ji12))))) - 48))) else (some (-1)))) else (none)) else (none)) = some r := by first | (rw [hji12] at H; exact H) | (simp only [hji12] at H ⊢; exact H)
       have hji12w : (IntKind.i64.wrap ((a0.size : Int) - 1)) = ji12 := (i64_w _).trans hji12
       by_cases c13 : 0 ≤ (ji12)
       ·rw [if_pos c13] at H
        have c13b0 : decide (0 ≤ (ji12)) = true := decide_eq_true c13
        clear c13
        by_cases c14 : (ji12) < (a0.size : Int)
        ·rw [if_pos c14] at H
         have c14b0 : decide ((ji12) < (a0.size : Int)) = true := decide_eq_true c14
         clear c14
         replace H := Option.bind_eq_some_iff.mp H
         obtain ⟨t111, A160, H⟩ := H
         replace H : (if t111.toList = a0.toList then (some (wrap64 ((wrap64 ((wrap64 ((wrap64 (x3_1 * 60)) + (wrap64 ((wrap64 ((wrap64 (bt a0 (ji8))) - 48)) * 10)))) + (wrap64 (bt a0 (ji12))))) - 48))) else (some (-1))) = some r := H
         have A16 := Aside0.mk A160
         clear A160
         by_cases c17 : t111.toList = a0.toList
         ·rw [if_pos c17] at H
          have c17b0 : (t111.toList == a0.toList) = true := beq_iff_eq.mpr c17
          have c17b1 : (t111.toList != a0.toList) = false := bne_eq_false_iff_eq.mpr c17
          clear c17
          obtain rfl := Option.some.inj H
          have p11 : 0 ≤ ((ji8) : Int) := of_decide_eq_true (by first | (with_reducible assumption) | assumption)
          have q11 : (ji8) < (a0.size : Int) := of_decide_eq_true (by first | (with_reducible assumption) | assumption)
          have hx11 := bt_at a0 (ji8)
          replace p11 := eq_true p11
          replace q11 := eq_true q11
          have p15 : 0 ≤ ((ji12) : Int) := of_decide_eq_true (by first | (with_reducible assumption) | assumption)
          have q15 : (ji12) < (a0.size : Int) := of_decide_eq_true (by first | (with_reducible assumption) | assumption)
          have hx15 := bt_at a0 (ji12)
          replace p15 := eq_true p15
          replace q15 := eq_true q15
          go_wp2_with (first | (go_at_call 11; (with_reducible refine (spec_TimeText.calls k1 (wrap64 ((wrap64 ((wrap64 ((wrap64 (x3_1 * 60)) + (wrap64 ((wrap64 ((wrap64 (bt a0 (ji8))) - 48)) * 10)))) + (wrap64 (bt a0 (ji12))))) - 48)) t111 _ A16.out).mono ?_); rintro e w18 ⟨rfl, hb⟩; have n0_ := Aside0.mk (below_step (by repeat (first | (with_reducible first | exact HB.out | apply below_alloc | apply pw_below_drewN | apply below_drew1) | exact HB.out)) hb); clear HB; have HB := n0_; clear n0_; (try clear hb); (try clear hb2); (try clear hk); (try clear hi)))
          repeat (go_quiet (first | (go_at_call 11; (with_reducible refine (spec_TimeText.calls k1 (wrap64 ((wrap64 ((wrap64 ((wrap64 (x3_1 * 60)) + (wrap64 ((wrap64 ((wrap64 (bt a0 (ji8))) - 48)) * 10)))) + (wrap64 (bt a0 (ji12))))) - 48)) t111 _ A16.out).mono ?_); rintro e w18 ⟨rfl, hb⟩; have n0_ := Aside0.mk (below_step (by repeat (first | (with_reducible first | exact HB.out | apply below_alloc | apply pw_below_drewN | apply below_drew1) | exact HB.out)) hb); clear HB; have HB := n0_; clear n0_; (try clear hb); (try clear hb2); (try clear hk); (try clear hi))); try go_wp2_with (first | (go_at_call 11; (with_reducible refine (spec_TimeText.calls k1 (wrap64 ((wrap64 ((wrap64 ((wrap64 (x3_1 * 60)) + (wrap64 ((wrap64 ((wrap64 (bt a0 (ji8))) - 48)) * 10)))) + (wrap64 (bt a0 (ji12))))) - 48)) t111 _ A16.out).mono ?_); rintro e w18 ⟨rfl, hb⟩; have n0_ := Aside0.mk (below_step (by repeat (first | (with_reducible first | exact HB.out | apply below_alloc | apply pw_below_drewN | apply below_drew1) | exact HB.out)) hb); clear HB; have HB := n0_; clear n0_; (try clear hb); (try clear hb2); (try clear hk); (try clear hi))))
          all_goals (first | (exfalso; omega) | skip)
          go_ret
          exact ⟨by first | rfl | (simp [errW_none, errW_some] <;> rfl) | (simp only [← hji8, ← hji12]; first | rfl | (simp [errW_none, errW_some] <;> rfl)) | (simp [*, errW_none, errW_some] <;> rfl), by repeat (first | (with_reducible first | exact HB.out | apply below_alloc | apply pw_below_drewN | apply below_drew1) | exact HB.out)⟩
         ·rw [if_neg c17] at H
          have c17b0 : (t111.toList == a0.toList) = false := beq_eq_false_iff_ne.mpr c17
          have c17b1 : (t111.toList != a0.toList) = true := bne_iff_ne.mpr c17
          obtain rfl := Option.some.inj H
          have p11 : 0 ≤ ((ji8) : Int) := of_decide_eq_true (by first | (with_reducible assumption) | assumption)
          have q11 : (ji8) < (a0.size : Int) := of_decide_eq_true (by first | (with_reducible assumption) | assumption)
          have hx11 := bt_at a0 (ji8)
          replace p11 := eq_true p11
          replace q11 := eq_true q11
          have p15 : 0 ≤ ((ji12) : Int) := of_decide_eq_true (by first | (with_reducible assumption) | assumption)
          have q15 : (ji12) < (a0.size : Int) := of_decide_eq_true (by first | (with_reducible assumption) | assumption)
          have hx15 := bt_at a0 (ji12)
          replace p15 := eq_true p15
          replace q15 := eq_true q15
          go_wp2_with (first | (go_at_call 11; (with_reducible refine (spec_TimeText.calls k1 (wrap64 ((wrap64 ((wrap64 ((wrap64 (x3_1 * 60)) + (wrap64 ((wrap64 ((wrap64 (bt a0 (ji8))) - 48)) * 10)))) + (wrap64 (bt a0 (ji12))))) - 48)) t111 _ A16.out).mono ?_); rintro e w19 ⟨rfl, hb⟩; have n0_ := Aside0.mk (below_step (by repeat (first | (with_reducible first | exact HB.out | apply below_alloc | apply pw_below_drewN | apply below_drew1) | exact HB.out)) hb); clear HB; have HB := n0_; clear n0_; (try clear hb); (try clear hb2); (try clear hk); (try clear hi)))
          repeat (go_quiet (first | (go_at_call 11; (with_reducible refine (spec_TimeText.calls k1 (wrap64 ((wrap64 ((wrap64 ((wrap64 (x3_1 * 60)) + (wrap64 ((wrap64 ((wrap64 (bt a0 (ji8))) - 48)) * 10)))) + (wrap64 (bt a0 (ji12))))) - 48)) t111 _ A16.out).mono ?_); rintro e w19 ⟨rfl, hb⟩; have n0_ := Aside0.mk (below_step (by repeat (first | (with_reducible first | exact HB.out | apply below_alloc | apply pw_below_drewN | apply below_drew1) | exact HB.out)) hb); clear HB; have HB := n0_; clear n0_; (try clear hb); (try clear hb2); (try clear hk); (try clear hi))); try go_wp2_with (first | (go_at_call 11; (with_reducible refine (spec_TimeText.calls k1 (wrap64 ((wrap64 ((wrap64 ((wrap64 (x3_1 * 60)) + (wrap64 ((wrap64 ((wrap64 (bt a0 (ji8))) - 48)) * 10)))) + (wrap64 (bt a0 (ji12))))) - 48)) t111 _ A16.out).mono ?_); rintro e w19 ⟨rfl, hb⟩; have n0_ := Aside0.mk (below_step (by repeat (first | (with_reducible first | exact HB.out | apply below_alloc | apply pw_below_drewN | apply below_drew1) | exact HB.out)) hb); clear HB; have HB := n0_; clear n0_; (try clear hb); (try clear hb2); (try clear hk); (try clear hi))))
          all_goals (first | (exfalso; omega) | skip)
          go_ret
          exact ⟨by first | rfl | (simp [errW_none, errW_some] <;> rfl) | (simp only [← hji8, ← hji12]; first | rfl | (simp [errW_none, errW_some] <;> rfl)) | (simp [*, errW_none, errW_some] <;> rfl), by repeat (first | (with_reducible first | exact HB.out | apply below_alloc | apply pw_below_drewN | apply below_drew1) | exact HB.out)⟩
        ·rw [if_neg c14] at H
         exact absurd H (by simp)
       ·rw [if_neg c13] at H
        exact absurd H (by simp)
      ·rw [if_neg c10] at H
       exact absurd H (by simp)
     ·rw [if_neg c9] at H
      exact absurd H (by simp)
 ·replace c3 := Bool.eq_false_iff.mpr c3
  subst c3
  have H1 : (some (-1)) = some r := by (first | (rw [if_neg (show ¬ (false = true) by decide)] at H; exact H) | rfl)
  clear H
  have H := H1
  clear H1
  obtain rfl := Option.some.inj H
  go_enter Tryd.func6, Tryd.ntmps6
  go_wp2_with (first | (go_at_call 12; (with_reducible refine (spec_l01In.calls (a0.size : Int) 5 7 false _ A2.out).mono ?_); rintro e w' ⟨rfl, ⟨nd, rfl⟩⟩; (try first | exact ⟨rfl, _, World.drewN_drewN _ _ _⟩ | exact ⟨rfl, _, Eq.trans (World.drewN_drewN _ _ _) (congrArg (World.drewN _) (Nat.add_assoc _ _ _))⟩)))
  repeat (go_quiet (first | (go_at_call 12; (with_reducible refine (spec_l01In.calls (a0.size : Int) 5 7 false _ A2.out).mono ?_); rintro e w' ⟨rfl, ⟨nd, rfl⟩⟩; (try first | exact ⟨rfl, _, World.drewN_drewN _ _ _⟩ | exact ⟨rfl, _, Eq.trans (World.drewN_drewN _ _ _) (congrArg (World.drewN _) (Nat.add_assoc _ _ _))⟩))); try go_wp2_with (first | (go_at_call 12; (with_reducible refine (spec_l01In.calls (a0.size : Int) 5 7 false _ A2.out).mono ?_); rintro e w' ⟨rfl, ⟨nd, rfl⟩⟩; (try first | exact ⟨rfl, _, World.drewN_drewN _ _ _⟩ | exact ⟨rfl, _, Eq.trans (World.drewN_drewN _ _ _) (congrArg (World.drewN _) (Nat.add_assoc _ _ _))⟩))))
  all_goals (first | (exfalso; omega) | skip)
  go_ret
  exact ⟨by first | rfl | (simp [errW_none, errW_some] <;> rfl) | (simp [*, errW_none, errW_some] <;> rfl), by repeat (first | (with_reducible first | exact HB.out | apply below_alloc | apply pw_below_drewN | apply below_drew1) | exact HB.out)⟩

/-! ### impl_between: function 17 -/
def impl_between.f (a0 : Int) (a1 : Int) (a2 : Int) : Option (Bool) := if a0 ≥ a1 then (some (decide (a0 ≤ a2))) else (some false)
set_option maxHeartbeats 8000000 in
set_option maxRecDepth 100000 in
theorem impl_between.calls (a0 : Int) (a1 : Int) (a2 : Int) (r : Bool) (w : World) (h : impl_between.f a0 a1 a2 = some r) :
  Calls Tryd.prog 17 #[.int .i64 a0, .int .i64 a1, .int .i64 a2] w fun e w' => e = .returned (.bool r) ∧ Drawn0 w w' := by
 have H : (if a0 ≥ a1 then (some (decide (a0 ≤ a2))) else (some false)) = some r := h
 clear h
 by_cases c4 : a0 ≥ a1
 ·rw [if_pos c4] at H
  have c4b0 : decide (a1 ≤ a0) = true := decide_eq_true c4
  clear c4
  obtain rfl := Option.some.inj H
  go_enter Tryd.func17, Tryd.ntmps17
  go_wp2
  all_goals (first | (exfalso; omega) | skip)
  go_ret
  exact ⟨by first | rfl | (simp; done) | (simp [*]; done), by repeat (first | exact Drawn0.refl _ | apply Drawn0.step)⟩
 ·rw [if_neg c4] at H
  have c4b0 : decide (a1 ≤ a0) = false := decide_eq_false c4
  clear c4
  obtain rfl := Option.some.inj H
  go_enter Tryd.func17, Tryd.ntmps17
  go_wp2
  all_goals (first | (exfalso; omega) | skip)
  go_ret
  exact ⟨by first | rfl | (simp; done) | (simp [*]; done), by repeat (first | exact Drawn0.refl _ | apply Drawn0.step)⟩

/-! ### impl_isMinute: function 14 -/
def impl_isMinute.f (a0 : Int) : Option (Bool) := (impl_between.f a0 0 100000).bind fun t112 => (some t112)
set_option maxHeartbeats 8000000 in
set_option maxRecDepth 100000 in
theorem impl_isMinute.calls (a0 : Int) (r : Bool) (w : World) (h : impl_isMinute.f a0 = some r) :
  Calls Tryd.prog 14 #[.int .i64 a0] w fun e w' => e = .returned (.bool r) ∧ Drawn0 w w' := by
 have H : ((impl_between.f a0 0 100000).bind fun t112 => (some t112)) = some r := h
 clear h
 replace H := Option.bind_eq_some_iff.mp H
 obtain ⟨t112, A20, H⟩ := H
 replace H : (some t112) = some r := H
 have A2 := Aside0.mk A20
 clear A20
 obtain rfl := Option.some.inj H
 go_enter Tryd.func14, Tryd.ntmps14
 go_wp2_with (first | ((with_reducible refine gate_callee (f := 17) rfl ?_); refine goesL_ (some 4) rfl rfl Tryd.func17 (by kernel_rfl) rfl #[.int .i64 a0, .int .i64 0, .int .i64 100000] rfl (by (try simp only [List.map_toArray, List.map_cons, List.map_nil]); first | done | rfl | (simp only [List.length_drop, List.length_take]; rfl)) ?_; (with_reducible refine (impl_between.calls a0 0 100000 t112 _ A2.out).mono ?_); rintro e w' ⟨rfl, ⟨nd, rfl⟩⟩; refine ⟨_, rfl, ?_⟩))
 all_goals (first | (exfalso; omega) | skip)
 go_ret
 exact ⟨by first | rfl | (simp; done) | (simp [*]; done), by repeat (first | exact Drawn0.refl _ | apply Drawn0.step)⟩

-- NOT PRINTED: function 21 (strconv_small)

-- NOT PRINTED: function 25 (strconv_log10Pow2)

-- NOT PRINTED: function 26 (bits_Len64)

-- NOT PRINTED: function 27 (strconv_bool2_int)

-- NOT PRINTED: function 22 (strconv_numDigits)

-- NOT PRINTED: function 23 (strconv_formatBase10)

-- NOT PRINTED: function 28 (strconv_isPowerOfTwo)

-- NOT PRINTED: function 30 (bits_TrailingZeros32)

-- NOT PRINTED: function 31 (bits_TrailingZeros64)

-- NOT PRINTED: function 29 (bits_TrailingZeros)

-- NOT PRINTED: function 24 (strconv_formatBits)

-- NOT PRINTED: function 20 (strconv_FormatInt)

-- NOT PRINTED: function 19 (strconv_Itoa_19)

/-! ### strconv_Itoa_18: function 18 -/
def strconv_Itoa_18.f (a0 : Int) : Option (ByteArray) := itoaT a0
theorem strconv_Itoa_18.calls (a0 : Int) (r : ByteArray) (w : World) (htab : Tab w) (h : strconv_Itoa_18.f a0 = some r) :
  Calls Tryd.prog 18 #[.int .i64 a0] w fun e w' => e = .returned (.string r) ∧ Below w.heap.size w w' := itoa_calls a0 r w htab h

/-! ### impl_twoDigits: function 15 -/
def impl_twoDigits.f (a0 : Int) : Option (ByteArray) := if a0 < 10 then ((strconv_Itoa_18.f a0).bind fun t113 => (if 1 + t113.size ≤ 9223372036854775807 then (some ((⟨#[48]⟩ : ByteArray) ++ t113)) else (none))) else ((strconv_Itoa_18.f a0).bind fun t114 => (some t114))
set_option maxHeartbeats 8000000 in
set_option maxRecDepth 100000 in
theorem impl_twoDigits.calls (a0 : Int) (r : ByteArray) (w : World) (htab : Tab w) (h : impl_twoDigits.f a0 = some r) :
  Calls Tryd.prog 15 #[.int .i64 a0] w fun e w' => e = .returned (.string r) ∧ Below w.heap.size w w' := by
 have HB := Aside0.mk (Below.refl w.heap.size w)
 have HT := Aside0.mk htab
 clear htab
 have H : (if a0 < 10 then ((strconv_Itoa_18.f a0).bind fun t113 => (if 1 + t113.size ≤ 9223372036854775807 then (some ((⟨#[48]⟩ : ByteArray) ++ t113)) else (none))) else ((strconv_Itoa_18.f a0).bind fun t114 => (some t114))) = some r := h
 clear h
 by_cases c2 : a0 < 10
 ·rw [if_pos c2] at H
  have c2b0 : decide (a0 < 10) = true := decide_eq_true c2
  clear c2
  replace H := Option.bind_eq_some_iff.mp H
  obtain ⟨t113, A30, H⟩ := H
  replace H : (if 1 + t113.size ≤ 9223372036854775807 then (some ((⟨#[48]⟩ : ByteArray) ++ t113)) else (none)) = some r := H
  have A3 := Aside0.mk A30
  clear A30
  by_cases c4 : 1 + t113.size ≤ 9223372036854775807
  ·rw [if_pos c4] at H
   have c4b0 := eq_true c4
   have c4b1 : decide (1 + t113.size ≤ 9223372036854775807) = true := decide_eq_true c4
   try have c4b2 : (9223372036854775807 < 1 + t113.size) = False := eq_false (Nat.not_lt.2 c4)
   have c4n := c4
   try simp only [ByteArray.size_append, show (⟨#[48]⟩ : ByteArray).size = 1 from rfl, show (⟨#[58]⟩ : ByteArray).size = 1 from rfl, show (⟨#[45]⟩ : ByteArray).size = 1 from rfl] at c4n
   obtain rfl := Option.some.inj H
   go_enter Tryd.func15, Tryd.ntmps15
   go_wp2_with (first | ((with_reducible refine gate_callee (f := 18) rfl ?_); refine goesL_ (some 6) rfl rfl Tryd.func18 (by kernel_rfl) rfl #[.int .i64 a0] rfl (by (try simp only [List.map_toArray, List.map_cons, List.map_nil]); first | done | rfl | (simp only [List.length_drop, List.length_take]; rfl)) ?_; (with_reducible refine (strconv_Itoa_18.calls a0 t113 _ (tabB HT.out (by repeat (first | (with_reducible first | exact HB.out | apply below_alloc | apply pw_below_drewN | apply below_drew1) | exact HB.out))) A3.out).mono ?_); rintro e w5 ⟨rfl, hb⟩; refine ⟨_, rfl, ?_⟩; have n0_ := Aside0.mk (below_step (by repeat (first | (with_reducible first | exact HB.out | apply below_alloc | apply pw_below_drewN | apply below_drew1) | exact HB.out)) hb); clear HB; have HB := n0_; clear n0_; (try clear hb); (try clear hb2); (try clear hk); (try clear hi)))
   all_goals (first | (exfalso; omega) | skip)
   go_ret
   exact ⟨by first | rfl | (simp [errW_none, errW_some] <;> rfl) | (simp [*, errW_none, errW_some] <;> rfl), by repeat (first | (with_reducible first | exact HB.out | apply below_alloc | apply pw_below_drewN | apply below_drew1) | exact HB.out)⟩
  ·rw [if_neg c4] at H
   exact absurd H (by simp)
 ·rw [if_neg c2] at H
  have c2b0 : decide (a0 < 10) = false := decide_eq_false c2
  clear c2
  replace H := Option.bind_eq_some_iff.mp H
  obtain ⟨t114, A60, H⟩ := H
  replace H : (some t114) = some r := H
  have A6 := Aside0.mk A60
  clear A60
  obtain rfl := Option.some.inj H
  go_enter Tryd.func15, Tryd.ntmps15
  go_wp2_with (first | ((with_reducible refine gate_callee (f := 18) rfl ?_); refine goesL_ (some 9) rfl rfl Tryd.func18 (by kernel_rfl) rfl #[.int .i64 a0] rfl (by (try simp only [List.map_toArray, List.map_cons, List.map_nil]); first | done | rfl | (simp only [List.length_drop, List.length_take]; rfl)) ?_; (with_reducible refine (strconv_Itoa_18.calls a0 t114 _ (tabB HT.out (by repeat (first | (with_reducible first | exact HB.out | apply below_alloc | apply pw_below_drewN | apply below_drew1) | exact HB.out))) A6.out).mono ?_); rintro e w7 ⟨rfl, hb⟩; refine ⟨_, rfl, ?_⟩; have n0_ := Aside0.mk (below_step (by repeat (first | (with_reducible first | exact HB.out | apply below_alloc | apply pw_below_drewN | apply below_drew1) | exact HB.out)) hb); clear HB; have HB := n0_; clear n0_; (try clear hb); (try clear hb2); (try clear hk); (try clear hi)))
  all_goals (first | (exfalso; omega) | skip)
  go_ret
  exact ⟨by first | rfl | (simp [errW_none, errW_some] <;> rfl) | (simp [*, errW_none, errW_some] <;> rfl), by repeat (first | (with_reducible first | exact HB.out | apply below_alloc | apply pw_below_drewN | apply below_drew1) | exact HB.out)⟩

/-! ### impl_TimeText: function 10 -/
def impl_TimeText.f (a0 : Int) : Option (ByteArray) := (impl_isMinute.f a0).bind fun t115 => (if t115 = true then ((impl_twoDigits.f (wrap64 (Int.tdiv a0 60))).bind fun t116 => (if t116.size + 1 ≤ 9223372036854775807 then ((impl_twoDigits.f (Int.tmod a0 60)).bind fun t117 => (if (t116 ++ (⟨#[58]⟩ : ByteArray)).size + t117.size ≤ 9223372036854775807 then (some ((t116 ++ (⟨#[58]⟩ : ByteArray)) ++ t117)) else (none))) else (none))) else (some (⟨#[]⟩ : ByteArray)))
set_option maxHeartbeats 8000000 in
set_option maxRecDepth 100000 in
theorem impl_TimeText.calls (a0 : Int) (r : ByteArray) (w : World) (htab : Tab w) (h : impl_TimeText.f a0 = some r) :
  Calls Tryd.prog 10 #[.int .i64 a0] w fun e w' => e = .returned (.string r) ∧ Below w.heap.size w w' := by
 have HB := Aside0.mk (Below.refl w.heap.size w)
 have HT := Aside0.mk htab
 clear htab
 have H : ((impl_isMinute.f a0).bind fun t115 => (if t115 = true then ((impl_twoDigits.f (wrap64 (Int.tdiv a0 60))).bind fun t116 => (if t116.size + 1 ≤ 9223372036854775807 then ((impl_twoDigits.f (Int.tmod a0 60)).bind fun t117 => (if (t116 ++ (⟨#[58]⟩ : ByteArray)).size + t117.size ≤ 9223372036854775807 then (some ((t116 ++ (⟨#[58]⟩ : ByteArray)) ++ t117)) else (none))) else (none))) else (some (⟨#[]⟩ : ByteArray)))) = some r := h
 clear h
 replace H := Option.bind_eq_some_iff.mp H
 obtain ⟨t115, A20, H⟩ := H
 replace H : (if t115 = true then ((impl_twoDigits.f (wrap64 (Int.tdiv a0 60))).bind fun t116 => (if t116.size + 1 ≤ 9223372036854775807 then ((impl_twoDigits.f (Int.tmod a0 60)).bind fun t117 => (if (t116 ++ (⟨#[58]⟩ : ByteArray)).size + t117.size ≤ 9223372036854775807 then (some ((t116 ++ (⟨#[58]⟩ : ByteArray)) ++ t117)) else (none))) else (none))) else (some (⟨#[]⟩ : ByteArray))) = some r := H
 have A2 := Aside0.mk A20
 clear A20
 by_cases c3 : t115 = true
 ·subst c3
  have H1 : ((impl_twoDigits.f (wrap64 (Int.tdiv a0 60))).bind fun t116 => (if t116.size + 1 ≤ 9223372036854775807 then ((impl_twoDigits.f (Int.tmod a0 60)).bind fun t117 => (if (t116 ++ (⟨#[58]⟩ : ByteArray)).size + t117.size ≤ 9223372036854775807 then (some ((t116 ++ (⟨#[58]⟩ : ByteArray)) ++ t117)) else (none))) else (none))) = some r := by (first | (rw [if_pos rfl] at H; exact H) | rfl)
  clear H
  have H := H1
  clear H1
  replace H := Option.bind_eq_some_iff.mp H
  obtain ⟨t116, A40, H⟩ := H
  replace H : (if t116.size + 1 ≤ 9223372036854775807 then ((impl_twoDigits.f (Int.tmod a0 60)).bind fun t117 => (if (t116 ++ (⟨#[58]⟩ : ByteArray)).size + t117.size ≤ 9223372036854775807 then (some ((t116 ++ (⟨#[58]⟩ : ByteArray)) ++ t117)) else (none))) else (none)) = some r := H
  have A4 := Aside0.mk A40
  clear A40
  by_cases c5 : t116.size + 1 ≤ 9223372036854775807
  ·rw [if_pos c5] at H
   have c5b0 := eq_true c5
   have c5b1 : decide (t116.size + 1 ≤ 9223372036854775807) = true := decide_eq_true c5
   try have c5b2 : (9223372036854775807 < t116.size + 1) = False := eq_false (Nat.not_lt.2 c5)
   have c5n := c5
   try simp only [ByteArray.size_append, show (⟨#[48]⟩ : ByteArray).size = 1 from rfl, show (⟨#[58]⟩ : ByteArray).size = 1 from rfl, show (⟨#[45]⟩ : ByteArray).size = 1 from rfl] at c5n
   replace H := Option.bind_eq_some_iff.mp H
   obtain ⟨t117, A60, H⟩ := H
   replace H : (if (t116 ++ (⟨#[58]⟩ : ByteArray)).size + t117.size ≤ 9223372036854775807 then (some ((t116 ++ (⟨#[58]⟩ : ByteArray)) ++ t117)) else (none)) = some r := H
   have A6 := Aside0.mk A60
   clear A60
   by_cases c7 : (t116 ++ (⟨#[58]⟩ : ByteArray)).size + t117.size ≤ 9223372036854775807
   ·rw [if_pos c7] at H
    have c7b0 := eq_true c7
    have c7b1 : decide ((t116 ++ (⟨#[58]⟩ : ByteArray)).size + t117.size ≤ 9223372036854775807) = true := decide_eq_true c7
    try have c7b2 : (9223372036854775807 < (t116 ++ (⟨#[58]⟩ : ByteArray)).size + t117.size) = False := eq_false (Nat.not_lt.2 c7)
    have c7n := c7
    try simp only [ByteArray.size_append, show (⟨#[48]⟩ : ByteArray).size = 1 from rfl, show (⟨#[58]⟩ : ByteArray).size = 1 from rfl, show (⟨#[45]⟩ : ByteArray).size = 1 from rfl] at c7n
    obtain rfl := Option.some.inj H
    go_enter Tryd.func10, Tryd.ntmps10
    go_wp2_with (first | ((with_reducible refine gate_callee (f := 14) rfl ?_); refine goesL_ (some 4) rfl rfl Tryd.func14 (by kernel_rfl) rfl #[.int .i64 a0] rfl (by (try simp only [List.map_toArray, List.map_cons, List.map_nil]); first | done | rfl | (simp only [List.length_drop, List.length_take]; rfl)) ?_; (with_reducible refine (impl_isMinute.calls a0 true _ A2.out).mono ?_); rintro e w' ⟨rfl, ⟨nd, rfl⟩⟩; refine ⟨_, rfl, ?_⟩) | ((with_reducible refine gate_callee (f := 15) rfl ?_); refine goesL_ (some 8) rfl rfl Tryd.func15 (by kernel_rfl) rfl #[.int .i64 (wrap64 (Int.tdiv a0 60))] rfl (by (try simp only [List.map_toArray, List.map_cons, List.map_nil]); first | done | rfl | (simp only [List.length_drop, List.length_take]; rfl)) ?_; (with_reducible refine (impl_twoDigits.calls (wrap64 (Int.tdiv a0 60)) t116 _ (tabB HT.out (by repeat (first | (with_reducible first | exact HB.out | apply below_alloc | apply pw_below_drewN | apply below_drew1) | exact HB.out))) A4.out).mono ?_); rintro e w8 ⟨rfl, hb⟩; refine ⟨_, rfl, ?_⟩; have n0_ := Aside0.mk (below_step (by repeat (first | (with_reducible first | exact HB.out | apply below_alloc | apply pw_below_drewN | apply below_drew1) | exact HB.out)) hb); clear HB; have HB := n0_; clear n0_; (try clear hb); (try clear hb2); (try clear hk); (try clear hi)) | ((with_reducible refine gate_callee (f := 15) rfl ?_); refine goesL_ (some 12) rfl rfl Tryd.func15 (by kernel_rfl) rfl #[.int .i64 (Int.tmod a0 60)] rfl (by (try simp only [List.map_toArray, List.map_cons, List.map_nil]); first | done | rfl | (simp only [List.length_drop, List.length_take]; rfl)) ?_; (with_reducible refine (impl_twoDigits.calls (Int.tmod a0 60) t117 _ (tabB HT.out (by repeat (first | (with_reducible first | exact HB.out | apply below_alloc | apply pw_below_drewN | apply below_drew1) | exact HB.out))) A6.out).mono ?_); rintro e w9 ⟨rfl, hb⟩; refine ⟨_, rfl, ?_⟩; have n0_ := Aside0.mk (below_step (by repeat (first | (with_reducible first | exact HB.out | apply below_alloc | apply pw_below_drewN | apply below_drew1) | exact HB.out)) hb); clear HB; have HB := n0_; clear n0_; (try clear hb); (try clear hb2); (try clear hk); (try clear hi)))
    all_goals (first | (exfalso; omega) | skip)
    go_ret
    exact ⟨by first | rfl | (simp [errW_none, errW_some] <;> rfl) | (simp [*, errW_none, errW_some] <;> rfl), by repeat (first | (with_reducible first | exact HB.out | apply below_alloc | apply pw_below_drewN | apply below_drew1) | exact HB.out)⟩
   ·rw [if_neg c7] at H
    exact absurd H (by simp)
  ·rw [if_neg c5] at H
   exact absurd H (by simp)
 ·replace c3 := Bool.eq_false_iff.mpr c3
  subst c3
  have H1 : (some (⟨#[]⟩ : ByteArray)) = some r := by (first | (rw [if_neg (show ¬ (false = true) by decide)] at H; exact H) | rfl)
  clear H
  have H := H1
  clear H1
  obtain rfl := Option.some.inj H
  go_enter Tryd.func10, Tryd.ntmps10
  go_wp2_with (first | ((with_reducible refine gate_callee (f := 14) rfl ?_); refine goesL_ (some 4) rfl rfl Tryd.func14 (by kernel_rfl) rfl #[.int .i64 a0] rfl (by (try simp only [List.map_toArray, List.map_cons, List.map_nil]); first | done | rfl | (simp only [List.length_drop, List.length_take]; rfl)) ?_; (with_reducible refine (impl_isMinute.calls a0 false _ A2.out).mono ?_); rintro e w' ⟨rfl, ⟨nd, rfl⟩⟩; refine ⟨_, rfl, ?_⟩))
  all_goals (first | (exfalso; omega) | skip)
  go_ret
  exact ⟨by first | rfl | (simp [errW_none, errW_some] <;> rfl) | (simp [*, errW_none, errW_some] <;> rfl), by repeat (first | (with_reducible first | exact HB.out | apply below_alloc | apply pw_below_drewN | apply below_drew1) | exact HB.out)⟩

end Go.Proofs.YtgjhlkjfdlkndaaDoor.PFnExactReadTime
