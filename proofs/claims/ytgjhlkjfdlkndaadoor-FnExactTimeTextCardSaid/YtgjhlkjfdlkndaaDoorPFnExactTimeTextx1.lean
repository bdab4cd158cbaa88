-- Written by a program of this session (wip/tools/fltprint.py: the kit's printer, taught more).
import Derived.Test.YtgjhlkjfdlkndaaDoorPFnExactTimeTextx0
namespace Go.Proofs.YtgjhlkjfdlkndaaDoor.PFnExactTimeText
open Go.RowKit Go.Proofs.YtgjhlkjfdlkndaaDoorW.PrintWords Go.Proofs.YtgjhlkjfdlkndaaDoorW.PrintLast Go.Proofs.YtgjhlkjfdlkndaaDoorW.PrintMore
attribute [local go_sem] max2_int min2_int max_two min_two max_three min_three max_four min_four   -- for this text's walks alone
set_option linter.unusedVariables false
set_option linter.unusedSimpArgs false

/-! ### impl_between: function 17 -/
def impl_between.f (a0 : Int) (a1 : Int) (a2 : Int) : Option (Bool) := if a0 ≥ a1 then (some (decide (a0 ≤ a2))) else (some false)
set_option maxHeartbeats 8000000 in
set_option maxRecDepth 100000 in
theorem impl_between.calls (a0 : Int) (a1 : Int) (a2 : Int) (r : Bool) (w : World) (h : impl_between.f a0 a1 a2 = some r) :
  Calls Tryd.prog 17 #[.int .i64 a0, .int .i64 a1, .int .i64 a2] w fun e w' => e = .returned (.bool r) ∧ Drawn0 w w' := by
 have H : (if a0 ≥ a1 then (some (decide (a0 ≤ a2))) else (some false)) = some r := h
 clear h
 by_cases c4 : a0 ≥ a1
 ·rw [if_pos c4] at H
  have c4b0 : decide (a1 ≤ a0) = true := decide_eq_true c4
  clear c4
  obtain rfl := Option.some.inj H
  go_enter Tryd.func17, Tryd.ntmps17
  go_wp2
  all_goals (first | (exfalso; omega) | skip)
  go_ret
  exact ⟨by first | rfl | (simp; done) | (simp [*]; done), by repeat (first | exact Drawn0.refl _ | apply Drawn0.step)⟩
 ·rw [if_neg c4] at H
  have c4b0 : decide (a1 ≤ a0) = false := decide_eq_false c4
  clear c4
  obtain rfl := Option.some.inj H
  go_enter Tryd.func17, Tryd.ntmps17
  go_wp2
  all_goals (first | (exfalso; omega) | skip)
  go_ret
  exact ⟨by first | rfl | (simp; done) | (simp [*]; done), by repeat (first | exact Drawn0.refl _ | apply Drawn0.step)⟩

/-! ### impl_isMinute: function 14 -/
def impl_isMinute.f (a0 : Int) : Option (Bool) := (impl_between.f a0 0 100000).bind fun t101 => (some t101)
set_option maxHeartbeats 8000000 in
set_option maxRecDepth 100000 in
theorem impl_isMinute.calls (a0 : Int) (r : Bool) (w : World) (h : impl_isMinute.f a0 = some r) :
  Calls Tryd.prog 14 #[.int .i64 a0] w fun e w' => e = .returned (.bool r) ∧ Drawn0 w w' := by
 have H : ((impl_between.f a0 0 100000).bind fun t101 => (some t101)) = some r := h
 clear h
 replace H := Option.bind_eq_some_iff.mp H
 obtain ⟨t101, A20, H⟩ := H
 replace H : (some t101) = some r := H
 have A2 := Aside0.mk A20
 clear A20
 obtain rfl := Option.some.inj H
 go_enter Tryd.func14, Tryd.ntmps14
 go_wp2_with (first | ((with_reducible refine gate_callee (f := 17) rfl ?_); refine goesL_ (some 4) rfl rfl Tryd.func17 (by kernel_rfl) rfl #[.int .i64 a0, .int .i64 0, .int .i64 100000] rfl (by (try simp only [List.map_toArray, List.map_cons, List.map_nil]); first | done | rfl | (simp only [List.length_drop, List.length_take]; rfl)) ?_; (with_reducible refine (impl_between.calls a0 0 100000 t101 _ A2.out).mono ?_); rintro e w' ⟨rfl, ⟨nd, rfl⟩⟩; refine ⟨_, rfl, ?_⟩))
 all_goals (first | (exfalso; omega) | skip)
 go_ret
 exact ⟨by first | rfl | (simp; done) | (simp [*]; done), by repeat (first | exact Drawn0.refl _ | apply Drawn0.step)⟩

-- NOT PRINTED: function 21 (strconv_small)

-- NOT PRINTED: function 25 (strconv_log10Pow2)

-- NOT PRINTED: function 26 (bits_Len64)

-- NOT PRINTED: function 27 (strconv_bool2_int)

-- NOT PRINTED: function 22 (strconv_numDigits)

-- NOT PRINTED: function 23 (strconv_formatBase10)

-- NOT PRINTED: function 28 (strconv_isPowerOfTwo)

-- NOT PRINTED: function 30 (bits_TrailingZeros32)

-- NOT PRINTED: function 31 (bits_TrailingZeros64)

-- NOT PRINTED: function 29 (bits_TrailingZeros)

-- NOT PRINTED: function 24 (strconv_formatBits)

-- NOT PRINTED: function 20 (strconv_FormatInt)

-- NOT PRINTED: function 19 (strconv_Itoa_19)

/-! ### strconv_Itoa_18: function 18 -/
def strconv_Itoa_18.f (a0 : Int) : Option (ByteArray) := itoaT a0
theorem strconv_Itoa_18.calls (a0 : Int) (r : ByteArray) (w : World) (htab : Tab w) (h : strconv_Itoa_18.f a0 = some r) :
  Calls Tryd.prog 18 #[.int .i64 a0] w fun e w' => e = .returned (.string r) ∧ Below w.heap.size w w' := itoa_calls a0 r w htab h

/-! ### impl_twoDigits: function 15 -/
def impl_twoDigits.f (a0 : Int) : Option (ByteArray) := if a0 < 10 then ((strconv_Itoa_18.f a0).bind fun t102 => (if 1 + t102.size ≤ 9223372036854775807 then (some ((⟨#[48]⟩ : ByteArray) ++ t102)) else (none))) else ((strconv_Itoa_18.f a0).bind fun t103 => (some t103))
set_option maxHeartbeats 8000000 in
set_option maxRecDepth 100000 in
theorem impl_twoDigits.calls (a0 : Int) (r : ByteArray) (w : World) (htab : Tab w) (h : impl_twoDigits.f a0 = some r) :
  Calls Tryd.prog 15 #[.int .i64 a0] w fun e w' => e = .returned (.string r) ∧ Below w.heap.size w w' := by
 have HB := Aside0.mk (Below.refl w.heap.size w)
 have HT := Aside0.mk htab
 clear htab
 have H : (if a0 < 10 then ((strconv_Itoa_18.f a0).bind fun t102 => (if 1 + t102.size ≤ 9223372036854775807 then (some ((⟨#[48]⟩ : ByteArray) ++ t102)) else (none))) else ((strconv_Itoa_18.f a0).bind fun t103 => (some t103))) = some r := h
 clear h
 by_cases c2 : a0 < 10
 ·rw [if_pos c2] at H
  have c2b0 : decide (a0 < 10) = true := decide_eq_true c2
  clear c2
  replace H := Option.bind_eq_some_iff.mp H
  obtain ⟨t102, A30, H⟩ := H
  replace H : (if 1 + t102.size ≤ 9223372036854775807 then (some ((⟨#[48]⟩ : ByteArray) ++ t102)) else (none)) = some r := H
  have A3 := Aside0.mk A30
  clear A30
  by_cases c4 : 1 + t102.size ≤ 9223372036854775807
  ·rw [if_pos c4] at H
   have c4b0 := eq_true c4
   have c4b1 : decide (1 + t102.size ≤ 9223372036854775807) = true := decide_eq_true c4
   try have c4b2 : (9223372036854775807 < 1 + t102.size) = False := eq_false (Nat.not_lt.2 c4)
   have c4n := c4
   try simp only [ByteArray.size_append, show (⟨#[48]⟩ : ByteArray).size = 1 from rfl, show (⟨#[58]⟩ : ByteArray).size = 1 from rfl, show (⟨#[45]⟩ : ByteArray).size = 1 from rfl] at c4n
   obtain rfl := Option.some.inj H
   go_enter Tryd.func15, Tryd.ntmps15
   go_wp2_with (first | ((with_reducible refine gate_callee (f := 18) rfl ?_); refine goesL_ (some 6) rfl rfl Tryd.func18 (by kernel_rfl) rfl #[.int .i64 a0] rfl (by (try simp only [List.map_toArray, List.map_cons, List.map_nil]); first | done | rfl | (simp only [List.length_drop, List.length_take]; rfl)) ?_; (with_reducible refine (strconv_Itoa_18.calls a0 t102 _ (tabB HT.out (by repeat (first | (with_reducible first | exact HB.out | apply below_alloc | apply pw_below_drewN | apply below_drew1) | exact HB.out))) A3.out).mono ?_); rintro e w5 ⟨rfl, hb⟩; refine ⟨_, rfl, ?_⟩; have n0_ := Aside0.mk (below_step (by repeat (first | (with_reducible first | exact HB.out | apply below_alloc | apply pw_below_drewN | apply below_drew1) | exact HB.out)) hb); clear HB; have HB := n0_; clear n0_; (try clear hb); (try clear hb2); (try clear hk); (try clear hi)))
   all_goals (first | (exfalso; omega) | skip)
   go_ret
   exact ⟨by first | rfl | (simp [errW_none, errW_some] <;> rfl) | (simp [*, errW_none, errW_some] <;> rfl), by repeat (first | (with_reducible first | exact HB.out | apply below_alloc | apply pw_below_drewN | apply below_drew1) | exact HB.out)⟩
  ·rw [if_neg c4] at H
   exact absurd H (by simp)
 ·rw [if_neg c2] at H
  have c2b0 : decide (a0 < 10) = false := decide_eq_false c2
  clear c2
  replace H := Option.bind_eq_some_iff.mp H
  obtain ⟨t103, A60, H⟩ := H
  replace H : (some t103) = some r := H
  have A6 := Aside0.mk A60
  clear A60
  obtain rfl := Option.some.inj H
  go_enter Tryd.func15, Tryd.ntmps15
  go_wp2_with (first | ((with_reducible refine gate_callee (f := 18) rfl ?_); refine goesL_ (some 9) rfl rfl Tryd.func18 (by kernel_rfl) rfl #[.int .i64 a0] rfl (by (try simp only [List.map_toArray, List.map_cons, List.map_nil]); first | done | rfl | (simp only [List.length_drop, List.length_take]; rfl)) ?_; (with_reducible refine (strconv_Itoa_18.calls a0 t103 _ (tabB HT.out (by repeat (first | (with_reducible first | exact HB.out | apply below_alloc | apply pw_below_drewN | apply below_drew1) | exact HB.out))) A6.out).mono ?_); rintro e w7 ⟨rfl, hb⟩; refine ⟨_, rfl, ?_⟩; have n0_ := Aside0.mk (below_step (by repeat (first | (with_reducible first | exact HB.out | apply below_alloc | apply pw_below_drewN | apply below_drew1) | exact HB.out)) hb); clear HB; have HB := n0_; clear n0_; (try clear hb); (try clear hb2); (try clear hk); (try clear hi)))
  all_goals (first | (exfalso; omega) | skip)
  go_ret
  exact ⟨by first | rfl | (simp [errW_none, errW_some] <;> rfl) | (simp [*, errW_none, errW_some] <;> rfl), by repeat (first | (with_reducible first | exact HB.out | apply below_alloc | apply pw_below_drewN | apply below_drew1) | exact HB.out)⟩

/-! ### impl_TimeText: function 10 -/
def impl_TimeText.f (a0 : Int) : Option (ByteArray) := (impl_isMinute.f a0).bind fun t104 => (if t104 = true then ((impl_twoDigits.f (wrap64 (Int.tdiv a0 60))).bind fun t105 => (if t105.size + 1 ≤ 9223372036854775807 then ((impl_twoDigits.f (Int.tmod a0 60)).bind fun t106 => (if (t105 ++ (⟨#[58]⟩ : ByteArray)).size + t106.size ≤ 9223372036854775807 then (some ((t105 ++ (⟨#[58]⟩ : ByteArray)) ++ t106)) else (none))) else (none))) else (some (⟨#[]⟩ : ByteArray)))
set_option maxHeartbeats 8000000 in
set_option maxRecDepth 100000 in
theorem impl_TimeText.calls (a0 : Int) (r : ByteArray) (w : World) (htab : Tab w) (h : impl_TimeText.f a0 = some r) :
  Calls Tryd.prog 10 #[.int .i64 a0] w fun e w' => e = .returned (.string r) ∧ Below w.heap.size w w' := by
 have HB := Aside0.mk (Below.refl w.heap.size w)
 have HT := Aside0.mk htab
 clear htab
 have H : ((impl_isMinute.f a0).bind fun t104 => (if t104 = true then ((impl_twoDigits.f (wrap64 (Int.tdiv a0 60))).bind fun t105 => (if t105.size + 1 ≤ 9223372036854775807 then ((impl_twoDigits.f (Int.tmod a0 60)).bind fun t106 => (if (t105 ++ (⟨#[58]⟩ : ByteArray)).size + t106.size ≤ 9223372036854775807 then (some ((t105 ++ (⟨#[58]⟩ : ByteArray)) ++ t106)) else (none))) else (none))) else (some (⟨#[]⟩ : ByteArray)))) = some r := h
 clear h
 replace H := Option.bind_eq_some_iff.mp H
 obtain ⟨t104, A20, H⟩ := H
 replace H : (if t104 = true then ((impl_twoDigits.f (wrap64 (Int.tdiv a0 60))).bind fun t105 => (if t105.size + 1 ≤ 9223372036854775807 then ((impl_twoDigits.f (Int.tmod a0 60)).bind fun t106 => (if (t105 ++ (⟨#[58]⟩ : ByteArray)).size + t106.size ≤ 9223372036854775807 then (some ((t105 ++ (⟨#[58]⟩ : ByteArray)) ++ t106)) else (none))) else (none))) else (some (⟨#[]⟩ : ByteArray))) = some r := H
 have A2 := Aside0.mk A20
 clear A20
 by_cases c3 : t104 = true
 ·subst c3
  have H1 : ((impl_twoDigits.f (wrap64 (Int.tdiv a0 60))).bind fun t105 => (if t105.size + 1 ≤ 9223372036854775807 then ((impl_twoDigits.f (Int.tmod a0 60)).bind fun t106 => (if (t105 ++ (⟨#[58]⟩ : ByteArray)).size + t106.size ≤ 9223372036854775807 then (some ((t105 ++ (⟨#[58]⟩ : ByteArray)) ++ t106)) else (none))) else (none))) = some r := by (first | (rw [if_pos rfl] at H; exact H) | rfl)
  clear H
  have H := H1
  clear H1
  replace H := Option.bind_eq_some_iff.mp H
  obtain ⟨t105, A40, H⟩ := H
  replace H : (if t105.size + 1 ≤ 9223372036854775807 then ((impl_twoDigits.f (Int.tmod a0 60)).bind fun t106 => (if (t105 ++ (⟨#[58]⟩ : ByteArray)).size + t106.size ≤ 9223372036854775807 then (some ((t105 ++ (⟨#[58]⟩ : ByteArray)) ++ t106)) else (none))) else (none)) = some r := H
  have A4 := Aside0.mk A40
  clear A40
  by_cases c5 : t105.size + 1 ≤ 9223372036854775807
  ·rw [if_pos c5] at H
   have c5b0 := eq_true c5
   have c5b1 : decide (t105.size + 1 ≤ 9223372036854775807) = true := decide_eq_true c5
   try have c5b2 : (9223372036854775807 < t105.size + 1) = False := eq_false (Nat.not_lt.2 c5)
   have c5n := c5
   try simp only [ByteArray.size_append, show (⟨#[48]⟩ : ByteArray).size = 1 from rfl, show (⟨#[58]⟩ : ByteArray).size = 1 from rfl, show (⟨#[45]⟩ : ByteArray).size = 1 from rfl] at c5n
   replace H := Option.bind_eq_some_iff.mp H
   obtain ⟨t106, A60, H⟩ := H
   replace H : (if (t105 ++ (⟨#[58]⟩ : ByteArray)).size + t106.size ≤ 9223372036854775807 then (some ((t105 ++ (⟨#[58]⟩ : ByteArray)) ++ t106)) else (none)) = some r := H
   have A6 := Aside0.mk A60
   clear A60
   by_cases c7 : (t105 ++ (⟨#[58]⟩ : ByteArray)).size + t106.size ≤ 9223372036854775807
   ·rw [if_pos c7] at H
    have c7b0 := eq_true c7
    have c7b1 : decide ((t105 ++ (⟨#[58]⟩ : ByteArray)).size + t106.size ≤ 9223372036854775807) = true := decide_eq_true c7
    try have c7b2 : (9223372036854775807 < (t105 ++ (⟨#[58]⟩ : ByteArray)).size + t106.size) = False := eq_false (Nat.not_lt.2 c7)
    have c7n := c7
    try simp only [ByteArray.size_append, show (⟨#[48]⟩ : ByteArray).size = 1 from rfl, show (⟨#[58]⟩ : ByteArray).size = 1 from rfl, show (⟨#[45]⟩ : ByteArray).size = 1 from rfl] at c7n
    obtain rfl := Option.some.inj H
    go_enter Tryd.func10, Tryd.ntmps10
    go_wp2_with (first | ((with_reducible refine gate_callee (f := 14) rfl ?_); refine goesL_ (some 4) rfl rfl Tryd.func14 (by kernel_rfl) rfl #[.int .i64 a0] rfl (by (try simp only [List.map_toArray, List.map_cons, List.map_nil]); first | done | rfl | (simp only [List.length_drop, List.length_take]; rfl)) ?_; (with_reducible refine (impl_isMinute.calls a0 true _ A2.out).mono ?_); rintro e w' ⟨rfl, ⟨nd, rfl⟩⟩; refine ⟨_, rfl, ?_⟩) | ((with_reducible refine gate_callee (f := 15) rfl ?_); refine goesL_ (some 8) rfl rfl Tryd.func15 (by kernel_rfl) rfl #[.int .i64 (wrap64 (Int.tdiv a0 60))] rfl (by (try simp only [List.map_toArray, List.map_cons, List.map_nil]); first | done | rfl | (simp only [List.length_drop, List.length_take]; rfl)) ?_; (with_reducible refine (impl_twoDigits.calls (wrap64 (Int.tdiv a0 60)) t105 _ (tabB HT.out (by repeat (first | (with_reducible first | exact HB.out | apply below_alloc | apply pw_below_drewN | apply below_drew1) | exact HB.out))) A4.out).mono ?_); rintro e w8 ⟨rfl, hb⟩; refine ⟨_, rfl, ?_⟩; have n0_ := Aside0.mk (below_step (by repeat (first | (with_reducible first | exact HB.out | apply below_alloc | apply pw_below_drewN | apply below_drew1) | exact HB.out)) hb); clear HB; have HB := n0_; clear n0_; (try clear hb); (try clear hb2); (try clear hk); (try clear hi)) | ((with_reducible refine gate_callee (f := 15) rfl ?_); refine goesL_ (some 12) rfl rfl Tryd.func15 (by kernel_rfl) rfl #[.int .i64 (Int.tmod a0 60)] rfl (by (try simp only [List.map_toArray, List.map_cons, List.map_nil]); first | done | rfl | (simp only [List.length_drop, List.length_take]; rfl)) ?_; (with_reducible refine (impl_twoDigits.calls (Int.tmod a0 60) t106 _ (tabB HT.out (by repeat (first | (with_reducible first | exact HB.out | apply below_alloc | apply pw_below_drewN | apply below_drew1) | exact HB.out))) A6.out).mono ?_); rintro e w9 ⟨rfl, hb⟩; refine ⟨_, rfl, ?_⟩; have n0_ := Aside0.mk (below_step (by repeat (first | (with_reducible first | exact HB.out | apply below_alloc | apply pw_below_drewN | apply below_drew1) | exact HB.out)) hb); clear HB; have HB := n0_; clear n0_; (try clear hb); (try clear hb2); (try clear hk); (try clear hi)))
    all_goals (first | (exfalso; omega) | skip)
    go_ret
    exact ⟨by first | rfl | (simp [errW_none, errW_some] <;> rfl) | (simp [*, errW_none, errW_some] <;> rfl), by repeat (first | (with_reducible first | exact HB.out | apply below_alloc | apply pw_below_drewN | apply below_drew1) | exact HB.out)⟩
   ·rw [if_neg c7] at H
    exact absurd H (by simp)
  ·rw [if_neg c5] at H
   exact absurd H (by simp)
 ·replace c3 := Bool.eq_false_iff.mpr c3
  subst c3
  have H1 : (some (⟨#[]⟩ : ByteArray)) = some r := by (first | (rw [if_neg (show ¬ (false = true) by decide)] at H; exact H) | rfl)
  clear H
  have H := H1
  clear H1
  obtain rfl := Option.some.inj H
  go_enter Tryd.func10, Tryd.ntmps10
  go_wp2_with (first | ((with_reducible refine gate_callee (f := 14) rfl ?_); refine goesL_ (some 4) rfl rfl Tryd.func14 (by kernel_rfl) rfl #[.int .i64 a0] rfl (by (try simp only [List.map_toArray, List.map_cons, List.map_nil]); first | done | rfl | (simp only [List.length_drop, List.length_take]; rfl)) ?_; (with_reducible refine (impl_isMinute.calls a0 false _ A2.out).mono ?_); rintro e w' ⟨rfl, ⟨nd, rfl⟩⟩; refine ⟨_, rfl, ?_⟩))
  all_goals (first | (exfalso; omega) | skip)
  go_ret
  exact ⟨by first | rfl | (simp [errW_none, errW_some] <;> rfl) | (simp [*, errW_none, errW_some] <;> rfl), by repeat (first | (with_reducible first | exact HB.out | apply below_alloc | apply pw_below_drewN | apply below_drew1) | exact HB.out)⟩

/-! ### spec_l01In: function 12 -/
def spec_l01In.f (a0 : Int) (a1 : Int) (a2 : Int) : Option (Bool) := if a1 ≤ a0 then (some (decide (a0 ≤ a2))) else (some false)
set_option maxHeartbeats 8000000 in
set_option maxRecDepth 100000 in
theorem spec_l01In.calls (a0 : Int) (a1 : Int) (a2 : Int) (r : Bool) (w : World) (h : spec_l01In.f a0 a1 a2 = some r) :
  Calls Tryd.prog 12 #[.int .i64 a0, .int .i64 a1, .int .i64 a2] w fun e w' => e = .returned (.bool r) ∧ Drawn0 w w' := by
 have H : (if a1 ≤ a0 then (some (decide (a0 ≤ a2))) else (some false)) = some r := h
 clear h
 by_cases c4 : a1 ≤ a0
 ·rw [if_pos c4] at H
  have c4b0 : decide (a1 ≤ a0) = true := decide_eq_true c4
  clear c4
  obtain rfl := Option.some.inj H
  go_enter Tryd.func12, Tryd.ntmps12
  go_wp2
  all_goals (first | (exfalso; omega) | skip)
  go_ret
  exact ⟨by first | rfl | (simp; done) | (simp [*]; done), by repeat (first | exact Drawn0.refl _ | apply Drawn0.step)⟩
 ·rw [if_neg c4] at H
  have c4b0 : decide (a1 ≤ a0) = false := decide_eq_false c4
  clear c4
  obtain rfl := Option.some.inj H
  go_enter Tryd.func12, Tryd.ntmps12
  go_wp2
  all_goals (first | (exfalso; omega) | skip)
  go_ret
  exact ⟨by first | rfl | (simp; done) | (simp [*]; done), by repeat (first | exact Drawn0.refl _ | apply Drawn0.step)⟩

/-! ### spec_l01Num: function 16 -/
def spec_l01Num.l0 : Nat → Int → ByteArray → Bool → Option (ByteArray)
 | 0, _, _, _ => none
 | k + 1, x0, x3, x4 => if x0 = 0 then (if x4 = true then (if 1 + x3.size ≤ 9223372036854775807 then (some ((⟨#[45]⟩ : ByteArray) ++ x3)) else (none)) else (some x3)) else (if (Int.tmod x0 10) < 0 then ((some (([(wrap64 (48 + (wrap64 (-(Int.tmod x0 10))))) % 256] : List Int) : List Int)).bind fun y107 => (if (strOfNums y107).size + x3.size ≤ 9223372036854775807 then (spec_l01Num.l0 k (wrap64 (Int.tdiv x0 10)) ((strOfNums y107) ++ x3) x4) else (none))) else ((some (([(wrap64 (48 + (Int.tmod x0 10))) % 256] : List Int) : List Int)).bind fun y110 => (if (strOfNums y110).size + x3.size ≤ 9223372036854775807 then (spec_l01Num.l0 k (wrap64 (Int.tdiv x0 10)) ((strOfNums y110) ++ x3) x4) else (none))))
def spec_l01Num.f (k : Nat) (a0 : Int) : Option (ByteArray) := if a0 = 0 then (some (⟨#[48]⟩ : ByteArray)) else (spec_l01Num.l0 k a0 (⟨#[]⟩ : ByteArray) (decide (a0 < 0)))
theorem spec_l01Num.mono_l : ∀ k, (∀ y0 y1 y2, LeO (spec_l01Num.l0 k y0 y1 y2) (spec_l01Num.l0 (k + 1) y0 y1 y2))
 | 0 => fun _ _ _ r h => by simp [spec_l01Num.l0] at h
 | k + 1 => by
  have ih0 := spec_l01Num.mono_l k
  ·intro y0 y1 y2
   unfold spec_l01Num.l0
   repeat' first
   | (with_reducible exact ih0 _ _ _)
   | (with_reducible exact LeO.refl _)
   | (with_reducible exact LeO.none _)
   | (with_reducible refine LeO.ite ?_ ?_)
   | (with_reducible refine LeO.bind ?_ (fun _ => ?_))
   | exact ih0 _ _ _
   | exact LeO.none _
   | refine LeO.ite ?_ ?_
   | refine LeO.bind ?_ (fun _ => ?_)
theorem spec_l01Num.mono : ∀ a0 k, LeO (spec_l01Num.f k a0) (spec_l01Num.f (k + 1) a0) := by
 intro a0 k
 have ih0 := spec_l01Num.mono_l k
 unfold spec_l01Num.f
 repeat' first
   | (with_reducible exact ih0 _ _ _)
   | (with_reducible exact LeO.refl _)
   | (with_reducible exact LeO.none _)
   | (with_reducible refine LeO.ite ?_ ?_)
   | (with_reducible refine LeO.bind ?_ (fun _ => ?_))
   | exact ih0 _ _ _
   | exact LeO.none _
   | refine LeO.ite ?_ ?_
   | refine LeO.bind ?_ (fun _ => ?_)
set_option maxHeartbeats 8000000 in
set_option maxRecDepth 100000 in
theorem spec_l01Num.calls (k : Nat) (a0 : Int) (r : ByteArray) (w : World) (h : spec_l01Num.f k a0 = some r) :
  Calls Tryd.prog 16 #[.int .i64 a0] w fun e w' => e = .returned (.string r) ∧ Below w.heap.size w w' := by
 have HB := Aside0.mk (Below.refl w.heap.size w)
 have H : (if a0 = 0 then (some (⟨#[48]⟩ : ByteArray)) else (spec_l01Num.l0 k a0 (⟨#[]⟩ : ByteArray) (decide (a0 < 0)))) = some r := h
 clear h
 by_cases c2 : a0 = 0
 ·rw [if_pos c2] at H
  have c2b0 : (a0 == 0) = true := beq_iff_eq.mpr c2
  have c2b1 : (a0 != 0) = false := bne_eq_false_iff_eq.mpr c2
  clear c2
  obtain rfl := Option.some.inj H
  go_enter Tryd.func16, Tryd.ntmps16
  go_wp2
  all_goals (first | (exfalso; omega) | skip)
  go_ret
  exact ⟨by first | rfl | (simp [errW_none, errW_some] <;> rfl) | (simp [*, errW_none, errW_some] <;> rfl), by repeat (first | (with_reducible first | exact HB.out | apply below_alloc | apply pw_below_drewN | apply below_drew1) | exact HB.out)⟩
 ·rw [if_neg c2] at H
  have c2b0 : (a0 == 0) = false := beq_eq_false_iff_ne.mpr c2
  have c2b1 : (a0 != 0) = true := bne_iff_ne.mpr c2
  have H' := Aside0.mk H
  clear H
  go_enter Tryd.func16, Tryd.ntmps16
  go_wp2
  go_loopg [0, 3] k (fun kq v0 v3 w' => ∃ (x0_1 : Int) (x3_1 : ByteArray), v0 = .int .i64 x0_1 ∧ v3 = .string x3_1 ∧ Aside0 (spec_l01Num.l0 kq x0_1 x3_1 (decide (a0 < 0)) = some r) ∧ Aside0 (kq ≤ k) ∧ Aside0 (Below w.heap.size w w'))
  case atStart => exact ⟨(a0), ((⟨#[]⟩ : ByteArray)), (by first | rfl | (simp; done) | (simp [*]; done)), (by first | rfl | (simp; done) | (simp [*]; done)), H', ⟨Nat.le_refl _⟩, ⟨by repeat (first | (with_reducible first | exact HB.out | apply below_alloc | apply pw_below_drewN | apply below_drew1) | exact HB.out)⟩⟩
  case round =>
   clear H'
   try clear c1
   try clear c2
   try clear c2b0
   try clear c2b1
   try clear p2
   obtain ⟨x0_1, x3_1, rfl, rfl, HA, HK1, HB⟩ := hrel
   cases gk with
   | zero => exact absurd HA.out (by simp [spec_l01Num.l0])
   | succ k1 =>
    have H := HA.out
    clear HA
    simp only [spec_l01Num.l0] at H
    by_cases c3 : x0_1 = 0
    ·rw [if_pos c3] at H
     have c3b0 : (x0_1 == 0) = true := beq_iff_eq.mpr c3
     have c3b1 : (x0_1 != 0) = false := bne_eq_false_iff_eq.mpr c3
     clear c3
     by_cases c4 : (decide (a0 < 0)) = true
     ·rw [if_pos c4] at H
      have c4b0 : (decide (a0 < 0)) = true := c4
      have c4d := of_decide_eq_true c4
      clear c4
      by_cases c5 : 1 + x3_1.size ≤ 9223372036854775807
      ·rw [if_pos c5] at H
       have c5b0 := eq_true c5
       have c5b1 : decide (1 + x3_1.size ≤ 9223372036854775807) = true := decide_eq_true c5
       try have c5b2 : (9223372036854775807 < 1 + x3_1.size) = False := eq_false (Nat.not_lt.2 c5)
       have c5n := c5
       try simp only [ByteArray.size_append, show (⟨#[48]⟩ : ByteArray).size = 1 from rfl, show (⟨#[58]⟩ : ByteArray).size = 1 from rfl, show (⟨#[45]⟩ : ByteArray).size = 1 from rfl] at c5n
       obtain rfl := Option.some.inj H
       go_wp2
       all_goals (first | (exfalso; omega) | skip)
       go_ret
       exact ⟨by first | rfl | (simp [errW_none, errW_some] <;> rfl) | (simp [*, errW_none, errW_some] <;> rfl), by repeat (first | (with_reducible first | exact HB.out | apply below_alloc | apply pw_below_drewN | apply below_drew1) | exact HB.out)⟩
      ·rw [if_neg c5] at H
       exact absurd H (by simp)
     ·rw [if_neg c4] at H
      have c4b0 : (decide (a0 < 0)) = false := by simpa using c4
      have c4d := of_decide_eq_false c4b0
      clear c4
      obtain rfl := Option.some.inj H
      go_wp2
      all_goals (first | (exfalso; omega) | skip)
      go_ret
      exact ⟨by first | rfl | (simp [errW_none, errW_some] <;> rfl) | (simp [*, errW_none, errW_some] <;> rfl), by repeat (first | (with_reducible first | exact HB.out | apply below_alloc | apply pw_below_drewN | apply below_drew1) | exact HB.out)⟩
    ·rw [if_neg c3] at H
     have c3b0 : (x0_1 == 0) = false := beq_eq_false_iff_ne.mpr c3
     have c3b1 : (x0_1 != 0) = true := bne_iff_ne.mpr c3
     by_cases c6 : (Int.tmod x0_1 10) < 0
     ·rw [if_pos c6] at H
      have c6b0 : decide ((Int.tmod x0_1 10) < 0) = true := decide_eq_true c6
      clear c6
      obtain ⟨y107, hy107⟩ : ∃ y_ : List Int, y_ = (([(wrap64 (48 + (wrap64 (-(Int.tmod x0_1 10))))) % 256] : List Int)) := ⟨_, rfl⟩
      replace H : (if (strOfNums y107).size + x3_1.size ≤ 9223372036854775807 then (spec_l01Num.l0 k1 (wrap64 (Int.tdiv x0_1 10)) ((strOfNums y107) ++ x3_1) (decide (a0 < 0))) else (none)) = some r := by first | (rw [hy107]; with_reducible exact H) | (have H2_ := (Option.bind_some _ _).symm.trans H; rw [hy107]; with_reducible exact H2_) | (have H2_ := (Option.bind_some _ _).symm.trans H; with_reducible exact H2_) | with_reducible exact H | (rw [hy107]; exact H) | exact H
      have Ny107 := Aside0.mk hy107
      clear hy107
      by_cases c7 : (strOfNums y107).size + x3_1.size ≤ 9223372036854775807
      ·rw [if_pos c7] at H
       have c7b0 := eq_true c7
       have c7b1 : decide ((strOfNums y107).size + x3_1.size ≤ 9223372036854775807) = true := decide_eq_true c7
       try have c7b2 : (9223372036854775807 < (strOfNums y107).size + x3_1.size) = False := eq_false (Nat.not_lt.2 c7)
       have c7n := c7
       try simp only [ByteArray.size_append, show (⟨#[48]⟩ : ByteArray).size = 1 from rfl, show (⟨#[58]⟩ : ByteArray).size = 1 from rfl, show (⟨#[45]⟩ : ByteArray).size = 1 from rfl] at c7n
       have H' := Aside0.mk H
       clear H
       go_wp2_with (first | ((with_reducible refine gate_dst (N := 21) rfl ?_); refine Kd.R_lit (Kd.int .u8) _ 5 ?hg (N := 21) ?hd (xs := ([(wrap64 (48 + (wrap64 (-(Int.tmod x0_1 10))))) % 256] : List Int)) (inner := [.int .u8 ((wrap64 (48 + (wrap64 (-(Int.tmod x0_1 10))))) % 256)]) (ok := fun _ => True) (okp := fun _ => True) ?hr ?hp (fun _ hk => hk) trivial (Below.refl _ _) (Nat.le_refl _) (by simp) ?_; (case hd => rfl); (case hg => rfl); (case hr => first | (go_simp; done) | (go_simp; rfl)); (case hp => exact (Reps.one (show Kd.M (Kd.int .u8) _ _ _ ((wrap64 (48 + (wrap64 (-(Int.tmod x0_1 10))))) % 256) [.int .u8 ((wrap64 (48 + (wrap64 (-(Int.tmod x0_1 10))))) % 256)] from rfl) (Reps.none _ _))); intro v108 w8 ho9 hb hg_ hnew_; clear hg_ hnew_; (first | rw [← Ny107.out] at ho9 | (simp only [Int.reduceToNat] at ho9; rw [← Ny107.out] at ho9)); have n0_ := Aside0.mk (Kd.R_lower ho9 (below_size (by repeat (first | (with_reducible first | exact HB.out | apply below_alloc | apply pw_below_drewN | apply below_drew1) | exact HB.out)))); have n1_ := Aside0.mk (below_step (by repeat (first | (with_reducible first | exact HB.out | apply below_alloc | apply pw_below_drewN | apply below_drew1) | exact HB.out)) hb); clear HB; have HO109 := n0_; have HB := n1_; clear n0_ n1_; clear hb ho9; have hcv10 := own_string (P := Tryd.prog) Tryd.underlying24 Tryd.underlying5 Tryd.underlying9 (Kd.own_of_R HO109.out)))
       all_goals (first | (exfalso; omega) | skip)
       go_roundg k1
       case measure => have := HK1.out; omega
       case rel => exact ⟨(wrap64 (Int.tdiv x0_1 10)), ((strOfNums y107) ++ x3_1), (by first | rfl | (simp; done) | (simp [*]; done)), (by first | rfl | (simp; done) | (simp [*]; done)), H', ⟨by have := HK1.out; omega⟩, ⟨by repeat (first | (with_reducible first | exact HB.out | apply below_alloc | apply pw_below_drewN | apply below_drew1) | exact HB.out)⟩⟩
      ·rw [if_neg c7] at H
       exact absurd H (by simp)
     ·rw [if_neg c6] at H
      have c6b0 : decide ((Int.tmod x0_1 10) < 0) = false := decide_eq_false c6
      clear c6
      obtain ⟨y110, hy110⟩ : ∃ y_ : List Int, y_ = (([(wrap64 (48 + (Int.tmod x0_1 10))) % 256] : List Int)) := ⟨_, rfl⟩
      replace H : (if (strOfNums y110).size + x3_1.size ≤ 9223372036854775807 then (spec_l01Num.l0 k1 (wrap64 (Int.tdiv x0_1 10)) ((strOfNums y110) ++ x3_1) (decide (a0 < 0))) else (none)) = some r := by first | (rw [hy110]; with_reducible exact H) | (have H2_ := (Option.bind_some _ _).symm.trans H; rw [hy110]; with_reducible exact H2_) | (have H2_ := (Option.bind_some _ _).symm.trans H; with_reducible exact H2_) | with_reducible exact H | (rw [hy110]; exact H) | exact H
      have Ny110 := Aside0.mk hy110
      clear hy110
      by_cases c11 : (strOfNums y110).size + x3_1.size ≤ 9223372036854775807
      ·rw [if_pos c11] at H
       have c11b0 := eq_true c11
       have c11b1 : decide ((strOfNums y110).size + x3_1.size ≤ 9223372036854775807) = true := decide_eq_true c11
       try have c11b2 : (9223372036854775807 < (strOfNums y110).size + x3_1.size) = False := eq_false (Nat.not_lt.2 c11)
       have c11n := c11
       try simp only [ByteArray.size_append, show (⟨#[48]⟩ : ByteArray).size = 1 from rfl, show (⟨#[58]⟩ : ByteArray).size = 1 from rfl, show (⟨#[45]⟩ : ByteArray).size = 1 from rfl] at c11n
       have H' := Aside0.mk H
       clear H
       go_wp2_with (first | ((with_reducible refine gate_dst (N := 21) rfl ?_); refine Kd.R_lit (Kd.int .u8) _ 5 ?hg (N := 21) ?hd (xs := ([(wrap64 (48 + (Int.tmod x0_1 10))) % 256] : List Int)) (inner := [.int .u8 ((wrap64 (48 + (Int.tmod x0_1 10))) % 256)]) (ok := fun _ => True) (okp := fun _ => True) ?hr ?hp (fun _ hk => hk) trivial (Below.refl _ _) (Nat.le_refl _) (by simp) ?_; (case hd => rfl); (case hg => rfl); (case hr => first | (go_simp; done) | (go_simp; rfl)); (case hp => exact (Reps.one (show Kd.M (Kd.int .u8) _ _ _ ((wrap64 (48 + (Int.tmod x0_1 10))) % 256) [.int .u8 ((wrap64 (48 + (Int.tmod x0_1 10))) % 256)] from rfl) (Reps.none _ _))); intro v111 w12 ho13 hb hg_ hnew_; clear hg_ hnew_; (first | rw [← Ny110.out] at ho13 | (simp only [Int.reduceToNat] at ho13; rw [← Ny110.out] at ho13)); have n0_ := Aside0.mk (Kd.R_lower ho13 (below_size (by repeat (first | (with_reducible first | exact HB.out | apply below_alloc | apply pw_below_drewN | apply below_drew1) | exact HB.out)))); have n1_ := Aside0.mk (below_step (by repeat (first | (with_reducible first | exact HB.out | apply below_alloc | apply pw_below_drewN | apply below_drew1) | exact HB.out)) hb); clear HB; have HO112 := n0_; have HB := n1_; clear n0_ n1_; clear hb ho13; have hcv14 := own_string (P := Tryd.prog) Tryd.underlying24 Tryd.underlying5 Tryd.underlying9 (Kd.own_of_R HO112.out)))
       all_goals (first | (exfalso; omega) | skip)
       go_roundg k1
       case measure => have := HK1.out; omega
       case rel => exact ⟨(wrap64 (Int.tdiv x0_1 10)), ((strOfNums y110) ++ x3_1), (by first | rfl | (simp; done) | (simp [*]; done)), (by first | rfl | (simp; done) | (simp [*]; done)), H', ⟨by have := HK1.out; omega⟩, ⟨by repeat (first | (with_reducible first | exact HB.out | apply below_alloc | apply pw_below_drewN | apply below_drew1) | exact HB.out)⟩⟩
      ·rw [if_neg c11] at H
       exact absurd H (by simp)

/-! ### spec_TimeText: function 11 -/
def spec_TimeText.f (k : Nat) (a0 : Int) : Option (ByteArray) := (spec_l01In.f a0 0 100000).bind fun t113 => (if t113 = true then ((spec_l01Num.f k (wrap64 (Int.tdiv a0 60))).bind fun t114 => ((spec_l01Num.f k (Int.tmod a0 60)).bind fun t115 => (if (t114.size : Int) < 2 then (if 1 + t114.size ≤ 9223372036854775807 then (if (t115.size : Int) < 2 then (if 1 + t115.size ≤ 9223372036854775807 then (if ((⟨#[48]⟩ : ByteArray) ++ t114).size + 1 ≤ 9223372036854775807 then (if (((⟨#[48]⟩ : ByteArray) ++ t114) ++ (⟨#[58]⟩ : ByteArray)).size + ((⟨#[48]⟩ : ByteArray) ++ t115).size ≤ 9223372036854775807 then (some ((((⟨#[48]⟩ : ByteArray) ++ t114) ++ (⟨#[58]⟩ : ByteArray)) ++ ((⟨#[48]⟩ : ByteArray) ++ t115))) else (none)) else (none)) else (none)) else (if ((⟨#[48]⟩ : ByteArray) ++ t114).size + 1 ≤ 9223372036854775807 then (if (((⟨#[48]⟩ : ByteArray) ++ t114) ++ (⟨#[58]⟩ : ByteArray)).size + t115.size ≤ 9223372036854775807 then (some ((((⟨#[48]⟩ : ByteArray) ++ t114) ++ (⟨#[58]⟩ : ByteArray)) ++ t115)) else (none)) else (none))) else (none)) else (if (t115.size : Int) < 2 then (if 1 + t115.size ≤ 9223372036854775807 then (if t114.size + 1 ≤ 9223372036854775807 then (if (t114 ++ (⟨#[58]⟩ : ByteArray)).size + ((⟨#[48]⟩ : ByteArray) ++ t115).size ≤ 9223372036854775807 then (some ((t114 ++ (⟨#[58]⟩ : ByteArray)) ++ ((⟨#[48]⟩ : ByteArray) ++ t115))) else (none)) else (none)) else (none)) else (if t114.size + 1 ≤ 9223372036854775807 then (if (t114 ++ (⟨#[58]⟩ : ByteArray)).size + t115.size ≤ 9223372036854775807 then (some ((t114 ++ (⟨#[58]⟩ : ByteArray)) ++ t115)) else (none)) else (none)))))) else (some (⟨#[]⟩ : ByteArray)))
theorem spec_TimeText.mono : ∀ a0 k, LeO (spec_TimeText.f k a0) (spec_TimeText.f (k + 1) a0) := by
 intro a0 k
 unfold spec_TimeText.f
 repeat' first
   | (with_reducible exact spec_l01Num.mono _ _)
   | (with_reducible exact LeO.refl _)
   | (with_reducible exact LeO.none _)
   | (with_reducible refine LeO.ite ?_ ?_)
   | (with_reducible refine LeO.bind ?_ (fun _ => ?_))
   | exact spec_l01Num.mono _ _
   | exact LeO.none _
   | refine LeO.ite ?_ ?_
   | refine LeO.bind ?_ (fun _ => ?_)
set_option maxHeartbeats 8000000 in
set_option maxRecDepth 100000 in
theorem spec_TimeText.calls (k : Nat) (a0 : Int) (r : ByteArray) (w : World) (h : spec_TimeText.f k a0 = some r) :
  Calls Tryd.prog 11 #[.int .i64 a0] w fun e w' => e = .returned (.string r) ∧ Below w.heap.size w w' := by
 have HB := Aside0.mk (Below.refl w.heap.size w)
 have H : ((spec_l01In.f a0 0 100000).bind fun t113 => (if t113 = true then ((spec_l01Num.f k (wrap64 (Int.tdiv a0 60))).bind fun t114 => ((spec_l01Num.f k (Int.tmod a0 60)).bind fun t115 => (if (t114.size : Int) < 2 then (if 1 + t114.size ≤ 9223372036854775807 then (if (t115.size : Int) < 2 then (if 1 + t115.size ≤ 9223372036854775807 then (if ((⟨#[48]⟩ : ByteArray) ++ t114).size + 1 ≤ 9223372036854775807 then (if (((⟨#[48]⟩ : ByteArray) ++ t114) ++ (⟨#[58]⟩ : ByteArray)).size + ((⟨#[48]⟩ : ByteArray) ++ t115).size ≤ 9223372036854775807 then (some ((((⟨#[48]⟩ : ByteArray) ++ t114) ++ (⟨#[58]⟩ : ByteArray)) ++ ((⟨#[48]⟩ : ByteArray) ++ t115))) else (none)) else (none)) else (none)) else (if ((⟨#[48]⟩ : ByteArray) ++ t114).size + 1 ≤ 9223372036854775807 then (if (((⟨#[48]⟩ : ByteArray) ++ t114) ++ (⟨#[58]⟩ : ByteArray)).size + t115.size ≤ 9223372036854775807 then (some ((((⟨#[48]⟩ : ByteArray) ++ t114) ++ (⟨#[58]⟩ : ByteArray)) ++ t115)) else (none)) else (none))) else (none)) else (if (t115.size : Int) < 2 then (if 1 + t115.size ≤ 9223372036854775807 then (if t114.size + 1 ≤ 9223372036854775807 then (if (t114 ++ (⟨#[58]⟩ : ByteArray)).size + ((⟨#[48]⟩ : ByteArray) ++ t115).size ≤ 9223372036854775807 then (some ((t114 ++ (⟨#[58]⟩ : ByteArray)) ++ ((⟨#[48]⟩ : ByteArray) ++ t115))) else (none)) else (none)) else (none)) else (if t114.size + 1 ≤ 9223372036854775807 then (if (t114 ++ (⟨#[58]⟩ : ByteArray)).size + t115.size ≤ 9223372036854775807 then (some ((t114 ++ (⟨#[58]⟩ : ByteArray)) ++ t115)) else (none)) else (none)))))) else (some (⟨#[]⟩ : ByteArray)))) = some r := h
 clear h
 replace H := Option.bind_eq_some_iff.mp H
 obtain ⟨t113, A20, H⟩ := H
 replace H : (if t113 = true then ((spec_l01Num.f k (wrap64 (Int.tdiv a0 60))).bind fun t114 => ((spec_l01Num.f k (Int.tmod a0 60)).bind fun t115 => (if (t114.size : Int) < 2 then (if 1 + t114.size ≤ 9223372036854775807 then (if (t115.size : Int) < 2 then (if 1 + t115.size ≤ 9223372036854775807 then (if ((⟨#[48]⟩ : ByteArray) ++ t114).size + 1 ≤ 9223372036854775807 then (if (((⟨#[48]⟩ : ByteArray) ++ t114) ++ (⟨#[58]⟩ : ByteArray)).size + ((⟨#[48]⟩ : ByteArray) ++ t115).size ≤ 9223372036854775807 then (some ((((⟨#[48]⟩ : ByteArray) ++ t114) ++ (⟨#[58]⟩ : ByteArray)) ++ ((⟨#[48]⟩ : ByteArray) ++ t115))) else (none)) else (none)) else (none)) else (if ((⟨#[48]⟩ : ByteArray) ++ t114).size + 1 ≤ 9223372036854775807 then (if (((⟨#[48]⟩ : ByteArray) ++ t114) ++ (⟨#[58]⟩ : ByteArray)).size + t115.size ≤ 9223372036854775807 then (some ((((⟨#[48]⟩ : ByteArray) ++ t114) ++ (⟨#[58]⟩ : ByteArray)) ++ t115)) else (none)) else (none))) else (none)) else (if (t115.size : Int) < 2 then (if 1 + t115.size ≤ 9223372036854775807 then (if t114.size + 1 ≤ 9223372036854775807 then (if (t114 ++ (⟨#[58]⟩ : ByteArray)).size + ((⟨#[48]⟩ : ByteArray) ++ t115).size ≤ 9223372036854775807 then (some ((t114 ++ (⟨#[58]⟩ : ByteArray)) ++ ((⟨#[48]⟩ : ByteArray) ++ t115))) else (none)) else (none)) else (none)) else (if t114.size + 1 ≤ 9223372036854775807 then (if (t114 ++ (⟨#[58]⟩ : ByteArray)).size + t115.size ≤ 9223372036854775807 then (some ((t114 ++ (⟨#[58]⟩ : ByteArray)) ++ t115)) else (none)) else (none)))))) else (some (⟨#[]⟩ : ByteArray))) = some r := H
 have A2 := Aside0.mk A20
 clear A20
 by_cases c3 : t113 = true
 ·subst c3
  have H1 : ((spec_l01Num.f k (wrap64 (Int.tdiv a0 60))).bind fun t114 => ((spec_l01Num.f k (Int.tmod a0 60)).bind fun t115 => (if (t114.size : Int) < 2 then (if 1 + t114.size ≤ 9223372036854775807 then (if (t115.size : Int) < 2 then (if 1 + t115.size ≤ 9223372036854775807 then (if ((⟨#[48]⟩ : ByteArray) ++ t114).size + 1 ≤ 9223372036854775807 then (if (((⟨#[48]⟩ : ByteArray) ++ t114) ++ (⟨#[58]⟩ : ByteArray)).size + ((⟨#[48]⟩ : ByteArray) ++ t115).size ≤ 9223372036854775807 then (some ((((⟨#[48]⟩ : ByteArray) ++ t114) ++ (⟨#[58]⟩ : ByteArray)) ++ ((⟨#[48]⟩ : ByteArray) ++ t115))) else (none)) else (none)) else (none)) else (if ((⟨#[48]⟩ : ByteArray) ++ t114).size + 1 ≤ 9223372036854775807 then (if (((⟨#[48]⟩ : ByteArray) ++ t114) ++ (⟨#[58]⟩ : ByteArray)).size + t115.size ≤ 9223372036854775807 then (some ((((⟨#[48]⟩ : ByteArray) ++ t114) ++ (⟨#[58]⟩ : ByteArray)) ++ t115)) else (none)) else (none))) else (none)) else (if (t115.size : Int) < 2 then (if 1 + t115.size ≤ 9223372036854775807 then (if t114.size + 1 ≤ 9223372036854775807 then (if (t114 ++ (⟨#[58]⟩ : ByteArray)).size + ((⟨#[48]⟩ : ByteArray) ++ t115).size ≤ 9223372036854775807 then (some ((t114 ++ (⟨#[58]⟩ : ByteArray)) ++ ((⟨#[48]⟩ : ByteArray) ++ t115))) else (none)) else (none)) else (none)) else (if t114.size + 1 ≤ 9223372036854775807 then (if (t114 ++ (⟨#[58]⟩ : ByteArray)).size + t115.size ≤ 9223372036854775807 then (some ((t114 ++ (⟨#[58]⟩ : ByteArray)) ++ t115)) else (none)) else (none)))))) = some r := by (first | (rw [if_pos rfl] at H; exact H) | rfl)
  clear H
  have H := H1
  clear H1
  replace H := Option.bind_eq_some_iff.mp H
  obtain ⟨t114, A40, H⟩ := H
  replace H : ((spec_l01Num.f k (Int.tmod a0 60)).bind fun t115 => (if (t114.size : Int) < 2 then (if 1 + t114.size ≤ 9223372036854775807 then (if (t115.size : Int) < 2 then (if 1 + t115.size ≤ 9223372036854775807 then (if ((⟨#[48]⟩ : ByteArray) ++ t114).size + 1 ≤ 9223372036854775807 then (if (((⟨#[48]⟩ : ByteArray) ++ t114) ++ (⟨#[58]⟩ : ByteArray)).size + ((⟨#[48]⟩ : ByteArray) ++ t115).size ≤ 9223372036854775807 then (some ((((⟨#[48]⟩ : ByteArray) ++ t114) ++ (⟨#[58]⟩ : ByteArray)) ++ ((⟨#[48]⟩ : ByteArray) ++ t115))) else (none)) else (none)) else (none)) else (if ((⟨#[48]⟩ : ByteArray) ++ t114).size + 1 ≤ 9223372036854775807 then (if (((⟨#[48]⟩ : ByteArray) ++ t114) ++ (⟨#[58]⟩ : ByteArray)).size + t115.size ≤ 9223372036854775807 then (some ((((⟨#[48]⟩ : ByteArray) ++ t114) ++ (⟨#[58]⟩ : ByteArray)) ++ t115)) else (none)) else (none))) else (none)) else (if (t115.size : Int) < 2 then (if 1 + t115.size ≤ 9223372036854775807 then (if t114.size + 1 ≤ 9223372036854775807 then (if (t114 ++ (⟨#[58]⟩ : ByteArray)).size + ((⟨#[48]⟩ : ByteArray) ++ t115).size ≤ 9223372036854775807 then (some ((t114 ++ (⟨#[58]⟩ : ByteArray)) ++ ((⟨#[48]⟩ : ByteArray) ++ t115))) else (none)) else (none)) else (none)) else (if t114.size + 1 ≤ 9223372036854775807 then (if (t114 ++ (⟨#[58]⟩ : ByteArray)).size + t115.size ≤ 9223372036854775807 then (some ((t114 ++ (⟨#[58]⟩ : ByteArray)) ++ t115)) else (none)) else (none))))) = some r := H
  have A4 := Aside0.mk A40
  clear A40
  replace H := Option.bind_eq_some_iff.mp H
  obtain ⟨t115, A50, H⟩ := H
  replace H : (if (t114.size : Int) < 2 then (if 1 + t114.size ≤ 9223372036854775807 then (if (t115.size : Int) < 2 then (if 1 + t115.size ≤ 9223372036854775807 then (if ((⟨#[48]⟩ : ByteArray) ++ t114).size + 1 ≤ 9223372036854775807 then (if (((⟨#[48]⟩ : ByteArray) ++ t114) ++ (⟨#[58]⟩ : ByteArray)).size + ((⟨#[48]⟩ : ByteArray) ++ t115).size ≤ 9223372036854775807 then (some ((((⟨#[48]⟩ : ByteArray) ++ t114) ++ (⟨#[58]⟩ : ByteArray)) ++ ((⟨#[48]⟩ : ByteArray) ++ t115))) else (none)) else (none)) else (none)) else (if ((⟨#[48]⟩ : ByteArray) ++ t114).size + 1 ≤ 9223372036854775807 then (if (((⟨#[48]⟩ : ByteArray) ++ t114) ++ (⟨#[58]⟩ : ByteArray)).size + t115.size ≤ 9223372036854775807 then (some ((((⟨#[48]⟩ : ByteArray) ++ t114) ++ (⟨#[58]⟩ : ByteArray)) ++ t115)) else (none)) else (none))) else (none)) else (if (t115.size : Int) < 2 then (if 1 + t115.size ≤ 9223372036854775807 then (if t114.size + 1 ≤ 9223372036854775807 then (if (t114 ++ (⟨#[58]⟩ : ByteArray)).size + ((⟨#[48]⟩ : ByteArray) ++ t115).size ≤ 9223372036854775807 then (some ((t114 ++ (⟨#[58]⟩ : ByteArray)) ++ ((⟨#[48]⟩ : ByteArray) ++ t115))) else (none)) else (none)) else (none)) else (if t114.size + 1 ≤ 9223372036854775807 then (if (t114 ++ (⟨#[58]⟩ : ByteArray)).size + t115.size ≤ 9223372036854775807 then (some ((t114 ++ (⟨#[58]⟩ : ByteArray)) ++ t115)) else (none)) else (none)))) = some r := H
  have A5 := Aside0.mk A50
  clear A50
  by_cases c6 : (t114.size : Int) < 2
  ·rw [if_pos c6] at H
   have c6b0 : decide ((t114.size : Int) < 2) = true := decide_eq_true c6
   have c6b1 : decide (t114.size < 2) = true := decide_eq_true (by omega)
   clear c6
   by_cases c7 : 1 + t114.size ≤ 9223372036854775807
   ·rw [if_pos c7] at H
    have c7b0 := eq_true c7
    have c7b1 : decide (1 + t114.size ≤ 9223372036854775807) = true := decide_eq_true c7
    try have c7b2 : (9223372036854775807 < 1 + t114.size) = False := eq_false (Nat.not_lt.2 c7)
    have c7n := c7
    try simp only [ByteArray.size_append, show (⟨#[48]⟩ : ByteArray).size = 1 from rfl, show (⟨#[58]⟩ : ByteArray).size = 1 from rfl, show (⟨#[45]⟩ : ByteArray).size = 1 from rfl] at c7n
    by_cases c8 : (t115.size : Int) < 2
    ·rw [if_pos c8] at H
     have c8b0 : decide ((t115.size : Int) < 2) = true := decide_eq_true c8
     have c8b1 : decide (t115.size < 2) = true := decide_eq_true (by omega)
     clear c8
     by_cases c9 : 1 + t115.size ≤ 9223372036854775807
     ·rw [if_pos c9] at H
      have c9b0 := eq_true c9
      have c9b1 : decide (1 + t115.size ≤ 9223372036854775807) = true := decide_eq_true c9
      try have c9b2 : (9223372036854775807 < 1 + t115.size) = False := eq_false (Nat.not_lt.2 c9)
      have c9n := c9
      try simp only [ByteArray.size_append, show (⟨#[48]⟩ : ByteArray).size = 1 from rfl, show (⟨#[58]⟩ : ByteArray).size = 1 from rfl, show (⟨#[45]⟩ : ByteArray).size = 1 from rfl] at c9n
      by_cases c10 : ((⟨#[48]⟩ : ByteArray) ++ t114).size + 1 ≤ 9223372036854775807
      ·rw [if_pos c10] at H
       have c10b0 := eq_true c10
       have c10b1 : decide (((⟨#[48]⟩ : ByteArray) ++ t114).size + 1 ≤ 9223372036854775807) = true := decide_eq_true c10
       try have c10b2 : (9223372036854775807 < ((⟨#[48]⟩ : ByteArray) ++ t114).size + 1) = False := eq_false (Nat.not_lt.2 c10)
       have c10n := c10
       try simp only [ByteArray.size_append, show (⟨#[48]⟩ : ByteArray).size = 1 from rfl, show (⟨#[58]⟩ : ByteArray).size = 1 from rfl, show (⟨#[45]⟩ : ByteArray).size = 1 from rfl] at c10n
       by_cases c11 : (((⟨#[48]⟩ : ByteArray) ++ t114) ++ (⟨#[58]⟩ : ByteArray)).size + ((⟨#[48]⟩ : ByteArray) ++ t115).size ≤ 9223372036854775807
       ·rw [if_pos c11] at H
        have c11b0 := eq_true c11
        have c11b1 : decide ((((⟨#[48]⟩ : ByteArray) ++ t114) ++ (⟨#[58]⟩ : ByteArray)).size + ((⟨#[48]⟩ : ByteArray) ++ t115).size ≤ 9223372036854775807) = true := decide_eq_true c11
        try have c11b2 : (9223372036854775807 < (((⟨#[48]⟩ : ByteArray) ++ t114) ++ (⟨#[58]⟩ : ByteArray)).size + ((⟨#[48]⟩ : ByteArray) ++ t115).size) = False := eq_false (Nat.not_lt.2 c11)
        have c11n := c11
        try simp only [ByteArray.size_append, show (⟨#[48]⟩ : ByteArray).size = 1 from rfl, show (⟨#[58]⟩ : ByteArray).size = 1 from rfl, show (⟨#[45]⟩ : ByteArray).size = 1 from rfl] at c11n
        obtain rfl := Option.some.inj H
        go_enter Tryd.func11, Tryd.ntmps11
        go_wp2_with (first | ((with_reducible refine gate_callee (f := 12) rfl ?_); refine goesL_ (some 6) rfl rfl Tryd.func12 (by kernel_rfl) rfl #[.int .i64 a0, .int .i64 0, .int .i64 100000] rfl (by (try simp only [List.map_toArray, List.map_cons, List.map_nil]); first | done | rfl | (simp only [List.length_drop, List.length_take]; rfl)) ?_; (with_reducible refine (spec_l01In.calls a0 0 100000 true _ A2.out).mono ?_); rintro e w' ⟨rfl, ⟨nd, rfl⟩⟩; refine ⟨_, rfl, ?_⟩) | ((with_reducible refine gate_callee (f := 16) rfl ?_); refine goesL_ (some 10) rfl rfl Tryd.func16 (by kernel_rfl) rfl #[.int .i64 (wrap64 (Int.tdiv a0 60))] rfl (by (try simp only [List.map_toArray, List.map_cons, List.map_nil]); first | done | rfl | (simp only [List.length_drop, List.length_take]; rfl)) ?_; (with_reducible refine (spec_l01Num.calls k (wrap64 (Int.tdiv a0 60)) t114 _ A4.out).mono ?_); rintro e w12 ⟨rfl, hb⟩; refine ⟨_, rfl, ?_⟩; have n0_ := Aside0.mk (below_step (by repeat (first | (with_reducible first | exact HB.out | apply below_alloc | apply pw_below_drewN | apply below_drew1) | exact HB.out)) hb); clear HB; have HB := n0_; clear n0_; (try clear hb); (try clear hb2); (try clear hk); (try clear hi)) | ((with_reducible refine gate_callee (f := 16) rfl ?_); refine goesL_ (some 13) rfl rfl Tryd.func16 (by kernel_rfl) rfl #[.int .i64 (Int.tmod a0 60)] rfl (by (try simp only [List.map_toArray, List.map_cons, List.map_nil]); first | done | rfl | (simp only [List.length_drop, List.length_take]; rfl)) ?_; (with_reducible refine (spec_l01Num.calls k (Int.tmod a0 60) t115 _ A5.out).mono ?_); rintro e w13 ⟨rfl, hb⟩; refine ⟨_, rfl, ?_⟩; have n0_ := Aside0.mk (below_step (by repeat (first | (with_reducible first | exact HB.out | apply below_alloc | apply pw_below_drewN | apply below_drew1) | exact HB.out)) hb); clear HB; have HB := n0_; clear n0_; (try clear hb); (try clear hb2); (try clear hk); (try clear hi)))
        all_goals (first | (exfalso; omega) | skip)
        go_ret
        exact ⟨by first | rfl | (simp [errW_none, errW_some] <;> rfl) | (simp [*, errW_none, errW_some] <;> rfl), by repeat (first | (with_reducible first | exact HB.out | apply below_alloc | apply pw_below_drewN | apply below_drew1) | exact HB.out)⟩
       ·rw [if_neg c11] at H
        exact absurd H (by simp)
      ·rw [if_neg c10] at H
       exact absurd H (by simp)
     ·rw [if_neg c9] at H
      exact absurd H (by simp)
    ·rw [if_neg c8] at H
     have c8b0 : decide ((t115.size : Int) < 2) = false := decide_eq_false c8
     have c8b1 : decide (t115.size < 2) = false := decide_eq_false (by omega)
     clear c8
     by_cases c14 : ((⟨#[48]⟩ : ByteArray) ++ t114).size + 1 ≤ 9223372036854775807
     ·rw [if_pos c14] at H
      have c14b0 := eq_true c14
      have c14b1 : decide (((⟨#[48]⟩ : ByteArray) ++ t114).size + 1 ≤ 9223372036854775807) = true := decide_eq_true c14
      try have c14b2 : (9223372036854775807 < ((⟨#[48]⟩ : ByteArray) ++ t114).size + 1) = False := eq_false (Nat.not_lt.2 c14)
      have c14n := c14
      try simp only [ByteArray.size_append, show (⟨#[48]⟩ : ByteArray).size = 1 from rfl, show (⟨#[58]⟩ : ByteArray).size = 1 from rfl, show (⟨#[45]⟩ : ByteArray).size = 1 from rfl] at c14n
      by_cases c15 : (((⟨#[48]⟩ : ByteArray) ++ t114) ++ (⟨#[58]⟩ : ByteArray)).size + t115.size ≤ 9223372036854775807
      ·rw [if_pos c15] at H
       have c15b0 := eq_true c15
       have c15b1 : decide ((((⟨#[48]⟩ : ByteArray) ++ t114) ++ (⟨#[58]⟩ : ByteArray)).size + t115.size ≤ 9223372036854775807) = true := decide_eq_true c15
       try have c15b2 : (9223372036854775807 < (((⟨#[48]⟩ : ByteArray) ++ t114) ++ (⟨#[58]⟩ : ByteArray)).size + t115.size) = False := eq_false (Nat.not_lt.2 c15)
       have c15n := c15
       try simp only [ByteArray.size_append, show (⟨#[48]⟩ : ByteArray).size = 1 from rfl, show (⟨#[58]⟩ : ByteArray).size = 1 from rfl, show (⟨#[45]⟩ : ByteArray).size = 1 from rfl] at c15n
       obtain rfl := Option.some.inj H
       go_enter Tryd.func11, Tryd.ntmps11
       go_wp2_with (first | ((with_reducible refine gate_callee (f := 12) rfl ?_); refine goesL_ (some 6) rfl rfl Tryd.func12 (by kernel_rfl) rfl #[.int .i64 a0, .int .i64 0, .int .i64 100000] rfl (by (try simp only [List.map_toArray, List.map_cons, List.map_nil]); first | done | rfl | (simp only [List.length_drop, List.length_take]; rfl)) ?_; (with_reducible refine (spec_l01In.calls a0 0 100000 true _ A2.out).mono ?_); rintro e w' ⟨rfl, ⟨nd, rfl⟩⟩; refine ⟨_, rfl, ?_⟩) | ((with_reducible refine gate_callee (f := 16) rfl ?_); refine goesL_ (some 10) rfl rfl Tryd.func16 (by kernel_rfl) rfl #[.int .i64 (wrap64 (Int.tdiv a0 60))] rfl (by (try simp only [List.map_toArray, List.map_cons, List.map_nil]); first | done | rfl | (simp only [List.length_drop, List.length_take]; rfl)) ?_; (with_reducible refine (spec_l01Num.calls k (wrap64 (Int.tdiv a0 60)) t114 _ A4.out).mono ?_); rintro e w16 ⟨rfl, hb⟩; refine ⟨_, rfl, ?_⟩; have n0_ := Aside0.mk (below_step (by repeat (first | (with_reducible first | exact HB.out | apply below_alloc | apply pw_below_drewN | apply below_drew1) | exact HB.out)) hb); clear HB; have HB := n0_; clear n0_; (try clear hb); (try clear hb2); (try clear hk); (try clear hi)) | ((with_reducible refine gate_callee (f := 16) rfl ?_); refine goesL_ (some 13) rfl rfl Tryd.func16 (by kernel_rfl) rfl #[.int .i64 (Int.tmod a0 60)] rfl (by (try simp only [List.map_toArray, List.map_cons, List.map_nil]); first | done | rfl | (simp only [List.length_drop, List.length_take]; rfl)) ?_; (with_reducible refine (spec_l01Num.calls k (Int.tmod a0 60) t115 _ A5.out).mono ?_); rintro e w17 ⟨rfl, hb⟩; refine ⟨_, rfl, ?_⟩; have n0_ := Aside0.mk (below_step (by repeat (first | (with_reducible first | exact HB.out | apply below_alloc | apply pw_below_drewN | apply below_drew1) | exact HB.out)) hb); clear HB; have HB := n0_; clear n0_; (try clear hb); (try clear hb2); (try clear hk); (try clear hi)))
       all_goals (first | (exfalso; omega) | skip)
       go_ret
       exact ⟨by first | rfl | (simp [errW_none, errW_some] <;> rfl) | (simp [*, errW_none, errW_some] <;> rfl), by repeat (first | (with_reducible first | exact HB.out | apply below_alloc | apply pw_below_drewN | apply below_drew1) | exact HB.out)⟩
      ·rw [if_neg c15] at H
       exact absurd H (by simp)
     ·rw [if_neg c14] at H
      exact absurd H (by simp)
   ·rw [if_neg c7] at H
    exact absurd H (by simp)
  ·rw [if_neg c6] at H
   have c6b0 : decide ((t114.size : Int) < 2) = false := decide_eq_false c6
   have c6b1 : decide (t114.size < 2) = false := decide_eq_false (by omega)
   clear c6
   by_cases c18 : (t115.size : Int) < 2
   ·rw [if_pos c18] at H
    have c18b0 : decide ((t115.size : Int) < 2) = true := decide_eq_true c18
    have c18b1 : decide (t115.size < 2) = true := decide_eq_true (by omega)
    clear c18
    by_cases c19 : 1 + t115.size ≤ 9223372036854775807
    ·rw [if_pos c19] at H
     have c19b0 := eq_true c19
     have c19b1 : decide (1 + t115.size ≤ 9223372036854775807) = true := decide_eq_true c19
     try have c19b2 : (9223372036854775807 < 1 + t115.size) = False := eq_false (Nat.not_lt.2 c19)
     have c19n := c19
     try simp only [ByteArray.size_append, show (⟨#[48]⟩ : ByteArray).size = 1 from rfl, show (⟨#[58]⟩ : ByteArray).size = 1 from rfl, show (⟨#[45]⟩ : ByteArray).size = 1 from rfl] at c19n
     by_cases c20 : t114.size + 1 ≤ 9223372036854775807
     ·rw [if_pos c20] at H
      have c20b0 := eq_true c20
      have c20b1 : decide (t114.size + 1 ≤ 9223372036854775807) = true := decide_eq_true c20
      try have c20b2 : (9223372036854775807 < t114.size + 1) = False := eq_false (Nat.not_lt.2 c20)
      have c20n := c20
      try simp only [ByteArray.size_append, show (⟨#[48]⟩ : ByteArray).size = 1 from rfl, show (⟨#[58]⟩ : ByteArray).size = 1 from rfl, show (⟨#[45]⟩ : ByteArray).size = 1 from rfl] at c20n
      by_cases c21 : (t114 ++ (⟨#[58]⟩ : ByteArray)).size + ((⟨#[48]⟩ : ByteArray) ++ t115).size ≤ 9223372036854775807
      ·rw [if_pos c21] at H
       have c21b0 := eq_true c21
       have c21b1 : decide ((t114 ++ (⟨#[58]⟩ : ByteArray)).size + ((⟨#[48]⟩ : ByteArray) ++ t115).size ≤ 9223372036854775807) = true := decide_eq_true c21
       try have c21b2 : (9223372036854775807 < (t114 ++ (⟨#[58]⟩ : ByteArray)).size + ((⟨#[48]⟩ : ByteArray) ++ t115).size) = False := eq_false (Nat.not_lt.2 c21)
       have c21n := c21
       try simp only [ByteArray.size_append, show (⟨#[48]⟩ : ByteArray).size = 1 from rfl, show (⟨#[58]⟩ : ByteArray).size = 1 from rfl, show (⟨#[45]⟩ : ByteArray).size = 1 from rfl] at c21n
       obtain rfl := Option.some.inj H
       go_enter Tryd.func11, Tryd.ntmps11
       go_wp2_with (first | ((with_reducible refine gate_callee (f := 12) rfl ?_); refine goesL_ (some 6) rfl rfl Tryd.func12 (by kernel_rfl) rfl #[.int .i64 a0, .int .i64 0, .int .i64 100000] rfl (by (try simp only [List.map_toArray, List.map_cons, List.map_nil]); first | done | rfl | (simp only [List.length_drop, List.length_take]; rfl)) ?_; (with_reducible refine (spec_l01In.calls a0 0 100000 true _ A2.out).mono ?_); rintro e w' ⟨rfl, ⟨nd, rfl⟩⟩; refine ⟨_, rfl, ?_⟩) | ((with_reducible refine gate_callee (f := 16) rfl ?_); refine goesL_ (some 10) rfl rfl Tryd.func16 (by kernel_rfl) rfl #[.int .i64 (wrap64 (Int.tdiv a0 60))] rfl (by (try simp only [List.map_toArray, List.map_cons, List.map_nil]); first | done | rfl | (simp only [List.length_drop, List.length_take]; rfl)) ?_; (with_reducible refine (spec_l01Num.calls k (wrap64 (Int.tdiv a0 60)) t114 _ A4.out).mono ?_); rintro e w22 ⟨rfl, hb⟩; refine ⟨_, rfl, ?_⟩; have n0_ := Aside0.mk (below_step (by repeat (first | (with_reducible first | exact HB.out | apply below_alloc | apply pw_below_drewN | apply below_drew1) | exact HB.out)) hb); clear HB; have HB := n0_; clear n0_; (try clear hb); (try clear hb2); (try clear hk); (try clear hi)) | ((with_reducible refine gate_callee (f := 16) rfl ?_); refine goesL_ (some 13) rfl rfl Tryd.func16 (by kernel_rfl) rfl #[.int .i64 (Int.tmod a0 60)] rfl (by (try simp only [List.map_toArray, List.map_cons, List.map_nil]); first | done | rfl | (simp only [List.length_drop, List.length_take]; rfl)) ?_; (with_reducible refine (spec_l01Num.calls k (Int.tmod a0 60) t115 _ A5.out).mono ?_); rintro e w23 ⟨rfl, hb⟩; refine ⟨_, rfl, ?_⟩; have n0_ := Aside0.mk (below_step (by repeat (first | (with_reducible first | exact HB.out | apply below_alloc | apply pw_below_drewN | apply below_drew1) | exact HB.out)) hb); clear HB; have HB := n0_; clear n0_; (try clear hb); (try clear hb2); (try clear hk); (try clear hi)))
       all_goals (first | (exfalso; omega) | skip)
       go_ret
       exact ⟨by first | rfl | (simp [errW_none, errW_some] <;> rfl) | (simp [*, errW_none, errW_some] <;> rfl), by repeat (first | (with_reducible first | exact HB.out | apply below_alloc | apply pw_below_drewN | apply below_drew1) | exact HB.out)⟩
      ·rw [if_neg c21] at H
       exact absurd H (by simp)
     ·rw [if_neg c20] at H
      exact absurd H (by simp)
    ·rw [if_neg c19] at H
     exact absurd H (by simp)
   ·rw [if_neg c18] at H
    have c18b0 : decide ((t115.size : Int) < 2) = false := decide_eq_false c18
    have c18b1 : decide (t115.size < 2) = false := decide_eq_false (by omega)
    clear c18
    by_cases c24 : t114.size + 1 ≤ 9223372036854775807
    ·rw [if_pos c24] at H
     have c24b0 := eq_true c24
     have c24b1 : decide (t114.size + 1 ≤ 9223372036854775807) = true := decide_eq_true c24
     try have c24b2 : (9223372036854775807 < t114.size + 1) = False := eq_false (Nat.not_lt.2 c24)
     have c24n := c24
     try simp only [ByteArray.size_append, show (⟨#[48]⟩ : ByteArray).size = 1 from rfl, show (⟨#[58]⟩ : ByteArray).size = 1 from rfl, show (⟨#[45]⟩ : ByteArray).size = 1 from rfl] at c24n
     by_cases c25 : (t114 ++ (⟨#[58]⟩ : ByteArray)).size + t115.size ≤ 9223372036854775807
     ·rw [if_pos c25] at H
      have c25b0 := eq_true c25
      have c25b1 : decide ((t114 ++ (⟨#[58]⟩ : ByteArray)).size + t115.size ≤ 9223372036854775807) = true := decide_eq_true c25
      try have c25b2 : (9223372036854775807 < (t114 ++ (⟨#[58]⟩ : ByteArray)).size + t115.size) = False := eq_false (Nat.not_lt.2 c25)
      have c25n := c25
      try simp only [ByteArray.size_append, show (⟨#[48]⟩ : ByteArray).size = 1 from rfl, show (⟨#[58]⟩ : ByteArray).size = 1 from rfl, show (⟨#[45]⟩ : ByteArray).size = 1 from rfl] at c25n
      obtain rfl := Option.some.inj H
      go_enter Tryd.func11, Tryd.ntmps11
      go_wp2_with (first | ((with_reducible refine gate_callee (f := 12) rfl ?_); refine goesL_ (some 6) rfl rfl Tryd.func12 (by kernel_rfl) rfl #[.int .i64 a0, .int .i64 0, .int .i64 100000] rfl (by (try simp only [List.map_toArray, List.map_cons, List.map_nil]); first | done | rfl | (simp only [List.length_drop, List.length_take]; rfl)) ?_; (with_reducible refine (spec_l01In.calls a0 0 100000 true _ A2.out).mono ?_); rintro e w' ⟨rfl, ⟨nd, rfl⟩⟩; refine ⟨_, rfl, ?_⟩) | ((with_reducible refine gate_callee (f := 16) rfl ?_); refine goesL_ (some 10) rfl rfl Tryd.func16 (by kernel_rfl) rfl #[.int .i64 (wrap64 (Int.tdiv a0 60))] rfl (by (try simp only [List.map_toArray, List.map_cons, List.map_nil]); first | done | rfl | (simp only [List.length_drop, List.length_take]; rfl)) ?_; (with_reducible refine (spec_l01Num.calls k (wrap64 (Int.tdiv a0 60)) t114 _ A4.out).mono ?_); rintro e w26 ⟨rfl, hb⟩; refine ⟨_, rfl, ?_⟩; have n0_ := Aside0.mk (below_step (by repeat (first | (with_reducible first | exact HB.out | apply below_alloc | apply pw_below_drewN | apply below_drew1) | exact HB.out)) hb); clear HB; have HB := n0_; clear n0_; (try clear hb); (try clear hb2); (try clear hk); (try clear hi)) | ((with_reducible refine gate_callee (f := 16) rfl ?_); refine goesL_ (some 13) rfl rfl Tryd.func16 (by kernel_rfl) rfl #[.int .i64 (Int.tmod a0 60)] rfl (by (try simp only [List.map_toArray, List.map_cons, List.map_nil]); first | done | rfl | (simp only [List.length_drop, List.length_take]; rfl)) ?_; (with_reducible refine (spec_l01Num.calls k (Int.tmod a0 60) t115 _ A5.out).mono ?_); rintro e w27 ⟨rfl, hb⟩; refine ⟨_, rfl, ?_⟩; have n0_ := Aside0.mk (below_step (by repeat (first | (with_reducible first | exact HB.out | apply below_alloc | apply pw_below_drewN | apply below_drew1) | exact HB.out)) hb); clear HB; have HB := n0_; clear n0_; (try clear hb); (try clear hb2); (try clear hk); (try clear hi)))
      all_goals (first | (exfalso; omega) | skip)
      go_ret
      exact ⟨by first | rfl | (simp [errW_none, errW_some] <;> rfl) | (simp [*, errW_none, errW_some] <;> rfl), by repeat (first | (with_reducible first | exact HB.out | apply below_alloc | apply pw_below_drewN | apply below_drew1) | exact HB.out)⟩
     ·rw [if_neg c25] at H
      exact absurd H (by simp)
    ·rw [if_neg c24] at H
     exact absurd H (by simp)
 ·replace c3 := Bool.eq_false_iff.mpr c3
  subst c3
  have H1 : (some (⟨#[]⟩ : ByteArray)) = some r := by (first | (rw [if_neg (show ¬ (false = true) by decide)] at H; exact H) | rfl)
  clear H
  have H := H1
  clear H1
  obtain rfl := Option.some.inj H
  go_enter Tryd.func11, Tryd.ntmps11
  go_wp2_with (first | ((with_reducible refine gate_callee (f := 12) rfl ?_); refine goesL_ (some 6) rfl rfl Tryd.func12 (by kernel_rfl) rfl #[.int .i64 a0, .int .i64 0, .int .i64 100000] rfl (by (try simp only [List.map_toArray, List.map_cons, List.map_nil]); first | done | rfl | (simp only [List.length_drop, List.length_take]; rfl)) ?_; (with_reducible refine (spec_l01In.calls a0 0 100000 false _ A2.out).mono ?_); rintro e w' ⟨rfl, ⟨nd, rfl⟩⟩; refine ⟨_, rfl, ?_⟩))
  all_goals (first | (exfalso; omega) | skip)
  go_ret
  exact ⟨by first | rfl | (simp [errW_none, errW_some] <;> rfl) | (simp [*, errW_none, errW_some] <;> rfl), by repeat (first | (with_reducible first | exact HB.out | apply below_alloc | apply pw_below_drewN | apply below_drew1) | exact HB.out)⟩

/-! ### laws_FnExactTimeText: function 5 -/
def laws_FnExactTimeText.f (k : Nat) (a0 : Int) : Option (Bool) := (spec_TimeText.f k a0).bind fun t116 => ((impl_TimeText.f a0).bind fun t117 => (if t117.toList = t116.toList then (some true) else (some false)))
theorem laws_FnExactTimeText.mono : ∀ a0 k, LeO (laws_FnExactTimeText.f k a0) (laws_FnExactTimeText.f (k + 1) a0) := by
 intro a0 k
 unfold laws_FnExactTimeText.f
 repeat' first
   | (with_reducible exact spec_TimeText.mono _ _)
   | (with_reducible exact LeO.refl _)
   | (with_reducible exact LeO.none _)
   | (with_reducible refine LeO.ite ?_ ?_)
   | (with_reducible refine LeO.bind ?_ (fun _ => ?_))
   | exact spec_TimeText.mono _ _
   | exact LeO.none _
   | refine LeO.ite ?_ ?_
   | refine LeO.bind ?_ (fun _ => ?_)
set_option maxHeartbeats 8000000 in
set_option maxRecDepth 100000 in
theorem laws_FnExactTimeText.calls (k : Nat) (a0 : Int) (w : World) (htab : Tab w) (h : laws_FnExactTimeText.f k a0 = some true) :
  Calls Tryd.prog 5 #[.int .i64 a0] w fun e w' => e = .returned (.bool true) ∧ Below w.heap.size w w' := by
 have HB := Aside0.mk (Below.refl w.heap.size w)
 have HT := Aside0.mk htab
 clear htab
 have H : ((spec_TimeText.f k a0).bind fun t116 => ((impl_TimeText.f a0).bind fun t117 => (if t117.toList = t116.toList then (some true) else (some false)))) = some true := h
 clear h
 replace H := Option.bind_eq_some_iff.mp H
 obtain ⟨t116, A20, H⟩ := H
 replace H : ((impl_TimeText.f a0).bind fun t117 => (if t117.toList = t116.toList then (some true) else (some false))) = some true := H
 have A2 := Aside0.mk A20
 clear A20
 replace H := Option.bind_eq_some_iff.mp H
 obtain ⟨t117, A30, H⟩ := H
 replace H : (if t117.toList = t116.toList then (some true) else (some false)) = some true := H
 have A3 := Aside0.mk A30
 clear A30
 by_cases c4 : t117.toList = t116.toList
 ·rw [if_pos c4] at H
  have c4b0 : (t117.toList == t116.toList) = true := beq_iff_eq.mpr c4
  have c4b1 : (t117.toList != t116.toList) = false := bne_eq_false_iff_eq.mpr c4
  clear c4
  clear H
  go_enter Tryd.func5, Tryd.ntmps5
  go_wp2_with (first | ((with_reducible refine gate_callee (f := 11) rfl ?_); refine goesL_ (some 6) rfl rfl Tryd.func11 (by kernel_rfl) rfl #[.int .i64 a0] rfl (by (try simp only [List.map_toArray, List.map_cons, List.map_nil]); first | done | rfl | (simp only [List.length_drop, List.length_take]; rfl)) ?_; (with_reducible refine (spec_TimeText.calls k a0 t116 _ A2.out).mono ?_); rintro e w5 ⟨rfl, hb⟩; refine ⟨_, rfl, ?_⟩; have n0_ := Aside0.mk (below_step (by repeat (first | (with_reducible first | exact HB.out | apply below_alloc | apply pw_below_drewN | apply below_drew1) | exact HB.out)) hb); clear HB; have HB := n0_; clear n0_; (try clear hb); (try clear hb2); (try clear hk); (try clear hi)) | ((with_reducible refine gate_callee (f := 10) rfl ?_); refine goesL_ (some 8) rfl rfl Tryd.func10 (by kernel_rfl) rfl #[.int .i64 a0] rfl (by (try simp only [List.map_toArray, List.map_cons, List.map_nil]); first | done | rfl | (simp only [List.length_drop, List.length_take]; rfl)) ?_; (with_reducible refine (impl_TimeText.calls a0 t117 _ (tabB HT.out (by repeat (first | (with_reducible first | exact HB.out | apply below_alloc | apply pw_below_drewN | apply below_drew1) | exact HB.out))) A3.out).mono ?_); rintro e w6 ⟨rfl, hb⟩; refine ⟨_, rfl, ?_⟩; have n0_ := Aside0.mk (below_step (by repeat (first | (with_reducible first | exact HB.out | apply below_alloc | apply pw_below_drewN | apply below_drew1) | exact HB.out)) hb); clear HB; have HB := n0_; clear n0_; (try clear hb); (try clear hb2); (try clear hk); (try clear hi)))
  all_goals (first | (exfalso; omega) | skip)
  go_ret
  exact ⟨by first | rfl | (simp [errW_none, errW_some] <;> rfl) | (simp [*, errW_none, errW_some] <;> rfl), by repeat (first | (with_reducible first | exact HB.out | apply below_alloc | apply pw_below_drewN | apply below_drew1) | exact HB.out)⟩
 ·rw [if_neg c4] at H
  have c4b0 : (t117.toList == t116.toList) = false := beq_eq_false_iff_ne.mpr c4
  have c4b1 : (t117.toList != t116.toList) = true := bne_iff_ne.mpr c4
  exact absurd (Option.some.inj H) (by decide)

/-- THE ONE PURE STATEMENT of laws_FnExactTimeText: yours. -/
def laws_FnExactTimeText.Pure : Prop := ∀ (a0 : Int), (Lit.int .i64 a0).wf = true → ∃ k, laws_FnExactTimeText.f k a0 = some true
theorem laws_FnExactTimeText.walk (P : laws_FnExactTimeText.Pure) (a0 : Int) (w : World) (htab : Tab w) (w0 : (Lit.int .i64 a0).wf = true) :
  Calls Tryd.prog 5 #[.int .i64 a0] w fun e w' => e = .returned (.bool true) ∧ Below w.heap.size w w' := by
 obtain ⟨k, h⟩ := P a0 w0
 refine (laws_FnExactTimeText.calls k a0 w htab h).mono ?_
 rintro e w' ⟨rfl, hd⟩
 exact ⟨rfl, hd⟩

end Go.Proofs.YtgjhlkjfdlkndaaDoor.PFnExactTimeText
