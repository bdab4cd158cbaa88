-- Written by a program of this session (wip/tools/fltprint.py: the kit's printer, taught more).
import Derived.Test.YtgjhlkjfdlkndaaPFnBothx0
import Derived.Test.YtgjhlkjfdlkndaaPFnBothx2
import Derived.Test.YtgjhlkjfdlkndaaPFnBothx4
namespace Go.Proofs.Ytgjhlkjfdlkndaa.PFnBoth
open Go.RowKit Go.Proofs.YtgjhlkjfdlkndaaW.PrintWords Go.Proofs.YtgjhlkjfdlkndaaW.PrintLast Go.Proofs.YtgjhlkjfdlkndaaW.PrintMore
attribute [local go_sem] max2_int min2_int max_two min_two max_three min_three max_four min_four   -- for this text's walks alone
set_option linter.unusedVariables false
set_option linter.unusedSimpArgs false
abbrev NbBothx5_ {α : Type} (k : Nat) (A : Option Addr) (l : List α) (c : Nat) : Prop := some k ≠ (Value.slice A l.length c).ownBlock
abbrev NvBothx5_ (k : Nat) (v : Value) : Prop := some k ≠ v.ownBlock

/-! ### spec_Both: function 30 -/
mutual
def spec_Both.j0 : Nat → Bool → Int → Int → Int → List Int → List Int → Int → Int → Int → List Int → List Int → Option (Int × Int × Int × List Int × List Int)
 | 0, _, _, _, _, _, _, _, _, _, _, _ => none
 | k + 1, x15, x152000, x152001, x152002, x152003, x152004, x153000, x153001, x153002, x153003, x153004 => if x15 = true then (some (0, 0, 0, ([] : List Int), ([] : List Int))) else (if x153001 > x152001 then (spec_Both.j1 k x152000 x152001 x152002 x152003 x152004 x153000 x153001 x153002 x153003 x153004 (Go.bits .and .i64 x152000 x153000) x153001 x152002) else (spec_Both.j1 k x152000 x152001 x152002 x152003 x152004 x153000 x153001 x153002 x153003 x153004 (Go.bits .and .i64 x152000 x153000) x152001 x152002))
def spec_Both.j1 : Nat → Int → Int → Int → List Int → List Int → Int → Int → Int → List Int → List Int → Int → Int → Int → Option (Int × Int × Int × List Int × List Int)
 | 0, _, _, _, _, _, _, _, _, _, _, _, _, _ => none
 | k + 1, x152000, x152001, x152002, x152003, x152004, x153000, x153001, x153002, x153003, x153004, x157000, x157001, x157002 => if x153002 < x157002 then (spec_Both.j2 k x152000 x152001 x152002 x152003 x152004 x153000 x153001 x153002 x153003 x153004 x157000 x157001 x153002) else (spec_Both.j2 k x152000 x152001 x152002 x152003 x152004 x153000 x153001 x153002 x153003 x153004 x157000 x157001 x157002)
def spec_Both.j2 : Nat → Int → Int → Int → List Int → List Int → Int → Int → Int → List Int → List Int → Int → Int → Int → Option (Int × Int × Int × List Int × List Int)
 | 0, _, _, _, _, _, _, _, _, _, _, _, _, _ => none
 | k + 1, x152000, x152001, x152002, x152003, x152004, x153000, x153001, x153002, x153003, x153004, x157000, x157001, x157002 => if x157001 > x157002 then (some (0, 0, 0, ([] : List Int), ([] : List Int))) else (spec_Both.l0 k x157001 x152000 x152001 x152002 x152003 x152004 x153000 x153001 x153002 x153003 x153004 x157000 x157001 x157002 ([] : List Int) ([] : List Int))
def spec_Both.l0 : Nat → Int → Int → Int → Int → List Int → List Int → Int → Int → Int → List Int → List Int → Int → Int → Int → List Int → List Int → Option (Int × Int × Int × List Int × List Int)
 | 0, _, _, _, _, _, _, _, _, _, _, _, _, _, _, _, _ => none
 | k + 1, x6, x152000, x152001, x152002, x152003, x152004, x153000, x153001, x153002, x153003, x153004, x157000, x157001, x157002, x157003, x157004 => if x6 ≤ x157002 then ((spec_l01On.f k x152000 x152001 x152002 x152003 x152004 x6).bind fun t157 => (if t157 = true then ((spec_l01On.f k x153000 x153001 x153002 x153003 x153004 x6).bind fun t158 => (spec_Both.j4 k x6 t158 x152000 x152001 x152002 x152003 x152004 x153000 x153001 x153002 x153003 x153004 x157000 x157001 x157002 x157003 x157004)) else (spec_Both.j4 k x6 false x152000 x152001 x152002 x152003 x152004 x153000 x153001 x153002 x153003 x153004 x157000 x157001 x157002 x157003 x157004))) else (if (x157003.length : Int) > 20 then (some (0, 0, 0, ([] : List Int), ([] : List Int))) else (if (x157004.length : Int) > 20 then (some (0, 0, 0, ([] : List Int), ([] : List Int))) else (some (x157000, x157001, x157002, x157003, x157004))))
def spec_Both.j4 : Nat → Int → Bool → Int → Int → Int → List Int → List Int → Int → Int → Int → List Int → List Int → Int → Int → Int → List Int → List Int → Option (Int × Int × Int × List Int × List Int)
 | 0, _, _, _, _, _, _, _, _, _, _, _, _, _, _, _, _, _ => none
 | k + 1, x6, x7, x152000, x152001, x152002, x152003, x152004, x153000, x153001, x153002, x153003, x153004, x157000, x157001, x157002, x157003, x157004 => (spec_l01Week.f x157000 x6).bind fun t159 => (if t159 = true then (spec_Both.j5 k x6 x7 (!x7) x152000 x152001 x152002 x152003 x152004 x153000 x153001 x153002 x153003 x153004 x157000 x157001 x157002 x157003 x157004) else (spec_Both.j5 k x6 x7 false x152000 x152001 x152002 x152003 x152004 x153000 x153001 x153002 x153003 x153004 x157000 x157001 x157002 x157003 x157004))
def spec_Both.j5 : Nat → Int → Bool → Bool → Int → Int → Int → List Int → List Int → Int → Int → Int → List Int → List Int → Int → Int → Int → List Int → List Int → Option (Int × Int × Int × List Int × List Int)
 | 0, _, _, _, _, _, _, _, _, _, _, _, _, _, _, _, _, _, _ => none
 | k + 1, x6, x7, x72, x152000, x152001, x152002, x152003, x152004, x153000, x153001, x153002, x153003, x153004, x157000, x157001, x157002, x157003, x157004 => if x72 = true then (if x157003.length < 17592186044416 then ((some (x157003 ++ [x6] : List Int)).bind fun y160 => ((spec_l01Week.f x157000 x6).bind fun t163 => (if t163 = true then (spec_Both.l0 k (wrap64 (x6 + 1)) x152000 x152001 x152002 x152003 x152004 x153000 x153001 x153002 x153003 x153004 x157000 x157001 x157002 y160 x157004) else (if x7 = true then (if x157004.length < 17592186044416 then (spec_Both.l0 k (wrap64 (x6 + 1)) x152000 x152001 x152002 x152003 x152004 x153000 x153001 x153002 x153003 x153004 x157000 x157001 x157002 y160 (x157004 ++ [x6])) else (none)) else (spec_Both.l0 k (wrap64 (x6 + 1)) x152000 x152001 x152002 x152003 x152004 x153000 x153001 x153002 x153003 x153004 x157000 x157001 x157002 y160 x157004))))) else (none)) else ((spec_l01Week.f x157000 x6).bind fun t167 => (if t167 = true then (spec_Both.l0 k (wrap64 (x6 + 1)) x152000 x152001 x152002 x152003 x152004 x153000 x153001 x153002 x153003 x153004 x157000 x157001 x157002 x157003 x157004) else (if x7 = true then (if x157004.length < 17592186044416 then (spec_Both.l0 k (wrap64 (x6 + 1)) x152000 x152001 x152002 x152003 x152004 x153000 x153001 x153002 x153003 x153004 x157000 x157001 x157002 x157003 (x157004 ++ [x6])) else (none)) else (spec_Both.l0 k (wrap64 (x6 + 1)) x152000 x152001 x152002 x152003 x152004 x153000 x153001 x153002 x153003 x153004 x157000 x157001 x157002 x157003 x157004))))
end
def spec_Both.f (k : Nat) (a0_0 : Int) (a0_1 : Int) (a0_2 : Int) (l0_3 : List Int) (l0_4 : List Int) (a1_0 : Int) (a1_1 : Int) (a1_2 : Int) (l1_3 : List Int) (l1_4 : List Int) : Option (Int × Int × Int × List Int × List Int) := (spec_PatternOk.f k a0_0 a0_1 a0_2 l0_3 l0_4).bind fun t154 => (if t154 = true then ((spec_PatternOk.f k a1_0 a1_1 a1_2 l1_3 l1_4).bind fun t155 => (spec_Both.j0 k (!t155) a0_0 a0_1 a0_2 l0_3 l0_4 a1_0 a1_1 a1_2 l1_3 l1_4)) else (spec_Both.j0 k true a0_0 a0_1 a0_2 l0_3 l0_4 a1_0 a1_1 a1_2 l1_3 l1_4))
theorem spec_Both.mono_l : ∀ k, (∀ y0 y1 y2 y3 y4 y5 y6 y7 y8 y9 y10, LeO (spec_Both.j0 k y0 y1 y2 y3 y4 y5 y6 y7 y8 y9 y10) (spec_Both.j0 (k + 1) y0 y1 y2 y3 y4 y5 y6 y7 y8 y9 y10)) ∧ (∀ y0 y1 y2 y3 y4 y5 y6 y7 y8 y9 y10 y11 y12, LeO (spec_Both.j1 k y0 y1 y2 y3 y4 y5 y6 y7 y8 y9 y10 y11 y12) (spec_Both.j1 (k + 1) y0 y1 y2 y3 y4 y5 y6 y7 y8 y9 y10 y11 y12)) ∧ (∀ y0 y1 y2 y3 y4 y5 y6 y7 y8 y9 y10 y11 y12, LeO (spec_Both.j2 k y0 y1 y2 y3 y4 y5 y6 y7 y8 y9 y10 y11 y12) (spec_Both.j2 (k + 1) y0 y1 y2 y3 y4 y5 y6 y7 y8 y9 y10 y11 y12)) ∧ (∀ y0 y1 y2 y3 y4 y5 y6 y7 y8 y9 y10 y11 y12 y13 y14 y15, LeO (spec_Both.l0 k y0 y1 y2 y3 y4 y5 y6 y7 y8 y9 y10 y11 y12 y13 y14 y15) (spec_Both.l0 (k + 1) y0 y1 y2 y3 y4 y5 y6 y7 y8 y9 y10 y11 y12 y13 y14 y15)) ∧ (∀ y0 y1 y2 y3 y4 y5 y6 y7 y8 y9 y10 y11 y12 y13 y14 y15 y16, LeO (spec_Both.j4 k y0 y1 y2 y3 y4 y5 y6 y7 y8 y9 y10 y11 y12 y13 y14 y15 y16) (spec_Both.j4 (k + 1) y0 y1 y2 y3 y4 y5 y6 y7 y8 y9 y10 y11 y12 y13 y14 y15 y16)) ∧ (∀ y0 y1 y2 y3 y4 y5 y6 y7 y8 y9 y10 y11 y12 y13 y14 y15 y16 y17, LeO (spec_Both.j5 k y0 y1 y2 y3 y4 y5 y6 y7 y8 y9 y10 y11 y12 y13 y14 y15 y16 y17) (spec_Both.j5 (k + 1) y0 y1 y2 y3 y4 y5 y6 y7 y8 y9 y10 y11 y12 y13 y14 y15 y16 y17))
 | 0 => ⟨fun _ _ _ _ _ _ _ _ _ _ _ r h => by simp [spec_Both.j0] at h, fun _ _ _ _ _ _ _ _ _ _ _ _ _ r h => by simp [spec_Both.j1] at h, fun _ _ _ _ _ _ _ _ _ _ _ _ _ r h => by simp [spec_Both.j2] at h, fun _ _ _ _ _ _ _ _ _ _ _ _ _ _ _ _ r h => by simp [spec_Both.l0] at h, fun _ _ _ _ _ _ _ _ _ _ _ _ _ _ _ _ _ r h => by simp [spec_Both.j4] at h, fun _ _ _ _ _ _ _ _ _ _ _ _ _ _ _ _ _ _ r h => by simp [spec_Both.j5] at h⟩
 | k + 1 => by
  obtain ⟨ih0, ih1, ih2, ih3, ih4, ih5⟩ := spec_Both.mono_l k
  refine ⟨?_, ?_, ?_, ?_, ?_, ?_⟩
  ·intro y0 y1 y2 y3 y4 y5 y6 y7 y8 y9 y10
   unfold spec_Both.j0
   repeat' first
   | (with_reducible exact ih0 _ _ _ _ _ _ _ _ _ _ _)
   | (with_reducible exact ih1 _ _ _ _ _ _ _ _ _ _ _ _ _)
   | (with_reducible exact ih2 _ _ _ _ _ _ _ _ _ _ _ _ _)
   | (with_reducible exact ih3 _ _ _ _ _ _ _ _ _ _ _ _ _ _ _ _)
   | (with_reducible exact ih4 _ _ _ _ _ _ _ _ _ _ _ _ _ _ _ _ _)
   | (with_reducible exact ih5 _ _ _ _ _ _ _ _ _ _ _ _ _ _ _ _ _ _)
   | (with_reducible exact spec_PatternOk.mono _ _ _ _ _ _)
   | (with_reducible exact spec_l01On.mono _ _ _ _ _ _ _)
   | (with_reducible exact LeO.refl _)
   | (with_reducible exact LeO.none _)
   | (with_reducible refine LeO.ite ?_ ?_)
   | (with_reducible refine LeO.bind ?_ (fun _ => ?_))
   | exact ih0 _ _ _ _ _ _ _ _ _ _ _
   | exact ih1 _ _ _ _ _ _ _ _ _ _ _ _ _
   | exact ih2 _ _ _ _ _ _ _ _ _ _ _ _ _
   | exact ih3 _ _ _ _ _ _ _ _ _ _ _ _ _ _ _ _
   | exact ih4 _ _ _ _ _ _ _ _ _ _ _ _ _ _ _ _ _
   | exact ih5 _ _ _ _ _ _ _ _ _ _ _ _ _ _ _ _ _ _
   | exact spec_PatternOk.mono _ _ _ _ _ _
   | exact spec_l01On.mono _ _ _ _ _ _ _
   | exact LeO.none _
   | refine LeO.ite ?_ ?_
   | refine LeO.bind ?_ (fun _ => ?_)
  ·intro y0 y1 y2 y3 y4 y5 y6 y7 y8 y9 y10 y11 y12
   unfold spec_Both.j1
   repeat' first
   | (with_reducible exact ih0 _ _ _ _ _ _ _ _ _ _ _)
   | (with_reducible exact ih1 _ _ _ _ _ _ _ _ _ _ _ _ _)
   | (with_reducible exact ih2 _ _ _ _ _ _ _ _ _ _ _ _ _)
   | (with_reducible exact ih3 _ _ _ _ _ _ _ _ _ _ _ _ _ _ _ _)
   | (with_reducible exact ih4 _ _ _ _ _ _ _ _ _ _ _ _ _ _ _ _ _)
   | (with_reducible exact ih5 _ _ _ _ _ _ _ _ _ _ _ _ _ _ _ _ _ _)
   | (with_reducible exact spec_PatternOk.mono _ _ _ _ _ _)
   | (with_reducible exact spec_l01On.mono _ _ _ _ _ _ _)
   | (with_reducible exact LeO.refl _)
   | (with_reducible exact LeO.none _)
   | (with_reducible refine LeO.ite ?_ ?_)
   | (with_reducible refine LeO.bind ?_ (fun _ => ?_))
   | exact ih0 _ _ _ _ _ _ _ _ _ _ _
   | exact ih1 _ _ _ _ _ _ _ _ _ _ _ _ _
   | exact ih2 _ _ _ _ _ _ _ _ _ _ _ _ _
   | exact ih3 _ _ _ _ _ _ _ _ _ _ _ _ _ _ _ _
   | exact ih4 _ _ _ _ _ _ _ _ _ _ _ _ _ _ _ _ _
   | exact ih5 _ _ _ _ _ _ _ _ _ _ _ _ _ _ _ _ _ _
   | exact spec_PatternOk.mono _ _ _ _ _ _
   | exact spec_l01On.mono _ _ _ _ _ _ _
   | exact LeO.none _
   | refine LeO.ite ?_ ?_
   | refine LeO.bind ?_ (fun _ => ?_)
  ·intro y0 y1 y2 y3 y4 y5 y6 y7 y8 y9 y10 y11 y12
   unfold spec_Both.j2
   repeat' first
   | (with_reducible exact ih0 _ _ _ _ _ _ _ _ _ _ _)
   | (with_reducible exact ih1 _ _ _ _ _ _ _ _ _ _ _ _ _)
   | (with_reducible exact ih2 _ _ _ _ _ _ _ _ _ _ _ _ _)
   | (with_reducible exact ih3 _ _ _ _ _ _ _ _ _ _ _ _ _ _ _ _)
   | (with_reducible exact ih4 _ _ _ _ _ _ _ _ _ _ _ _ _ _ _ _ _)
   | (with_reducible exact ih5 _ _ _ _ _ _ _ _ _ _ _ _ _ _ _ _ _ _)
   | (with_reducible exact spec_PatternOk.mono _ _ _ _ _ _)
   | (with_reducible exact spec_l01On.mono _ _ _ _ _ _ _)
   | (with_reducible exact LeO.refl _)
   | (with_reducible exact LeO.none _)
   | (with_reducible refine LeO.ite ?_ ?_)
   | (with_reducible refine LeO.bind ?_ (fun _ => ?_))
   | exact ih0 _ _ _ _ _ _ _ _ _ _ _
   | exact ih1 _ _ _ _ _ _ _ _ _ _ _ _ _
   | exact ih2 _ _ _ _ _ _ _ _ _ _ _ _ _
   | exact ih3 _ _ _ _ _ _ _ _ _ _ _ _ _ _ _ _
   | exact ih4 _ _ _ _ _ _ _ _ _ _ _ _ _ _ _ _ _
   | exact ih5 _ _ _ _ _ _ _ _ _ _ _ _ _ _ _ _ _ _
   | exact spec_PatternOk.mono _ _ _ _ _ _
   | exact spec_l01On.mono _ _ _ _ _ _ _
   | exact LeO.none _
   | refine LeO.ite ?_ ?_
   | refine LeO.bind ?_ (fun _ => ?_)
  ·intro y0 y1 y2 y3 y4 y5 y6 y7 y8 y9 y10 y11 y12 y13 y14 y15
   unfold spec_Both.l0
   repeat' first
   | (with_reducible exact ih0 _ _ _ _ _ _ _ _ _ _ _)
   | (with_reducible exact ih1 _ _ _ _ _ _ _ _ _ _ _ _ _)
   | (with_reducible exact ih2 _ _ _ _ _ _ _ _ _ _ _ _ _)
   | (with_reducible exact ih3 _ _ _ _ _ _ _ _ _ _ _ _ _ _ _ _)
   | (with_reducible exact ih4 _ _ _ _ _ _ _ _ _ _ _ _ _ _ _ _ _)
   | (with_reducible exact ih5 _ _ _ _ _ _ _ _ _ _ _ _ _ _ _ _ _ _)
   | (with_reducible exact spec_PatternOk.mono _ _ _ _ _ _)
   | (with_reducible exact spec_l01On.mono _ _ _ _ _ _ _)
   | (with_reducible exact LeO.refl _)
   | (with_reducible exact LeO.none _)
   | (with_reducible refine LeO.ite ?_ ?_)
   | (with_reducible refine LeO.bind ?_ (fun _ => ?_))
   | exact ih0 _ _ _ _ _ _ _ _ _ _ _
   | exact ih1 _ _ _ _ _ _ _ _ _ _ _ _ _
   | exact ih2 _ _ _ _ _ _ _ _ _ _ _ _ _
   | exact ih3 _ _ _ _ _ _ _ _ _ _ _ _ _ _ _ _
   | exact ih4 _ _ _ _ _ _ _ _ _ _ _ _ _ _ _ _ _
   | exact ih5 _ _ _ _ _ _ _ _ _ _ _ _ _ _ _ _ _ _
   | exact spec_PatternOk.mono _ _ _ _ _ _
   | exact spec_l01On.mono _ _ _ _ _ _ _
   | exact LeO.none _
   | refine LeO.ite ?_ ?_
   | refine LeO.bind ?_ (fun _ => ?_)
  ·intro y0 y1 y2 y3 y4 y5 y6 y7 y8 y9 y10 y11 y12 y13 y14 y15 y16
   unfold spec_Both.j4
   repeat' first
   | (with_reducible exact ih0 _ _ _ _ _ _ _ _ _ _ _)
   | (with_reducible exact ih1 _ _ _ _ _ _ _ _ _ _ _ _ _)
   | (with_reducible exact ih2 _ _ _ _ _ _ _ _ _ _ _ _ _)
   | (with_reducible exact ih3 _ _ _ _ _ _ _ _ _ _ _ _ _ _ _ _)
   | (with_reducible exact ih4 _ _ _ _ _ _ _ _ _ _ _ _ _ _ _ _ _)
   | (with_reducible exact ih5 _ _ _ _ _ _ _ _ _ _ _ _ _ _ _ _ _ _)
   | (with_reducible exact spec_PatternOk.mono _ _ _ _ _ _)
   | (with_reducible exact spec_l01On.mono _ _ _ _ _ _ _)
   | (with_reducible exact LeO.refl _)
   | (with_reducible exact LeO.none _)
   | (with_reducible refine LeO.ite ?_ ?_)
   | (with_reducible refine LeO.bind ?_ (fun _ => ?_))
   | exact ih0 _ _ _ _ _ _ _ _ _ _ _
   | exact ih1 _ _ _ _ _ _ _ _ _ _ _ _ _
   | exact ih2 _ _ _ _ _ _ _ _ _ _ _ _ _
   | exact ih3 _ _ _ _ _ _ _ _ _ _ _ _ _ _ _ _
   | exact ih4 _ _ _ _ _ _ _ _ _ _ _ _ _ _ _ _ _
   | exact ih5 _ _ _ _ _ _ _ _ _ _ _ _ _ _ _ _ _ _
   | exact spec_PatternOk.mono _ _ _ _ _ _
   | exact spec_l01On.mono _ _ _ _ _ _ _
   | exact LeO.none _
   | refine LeO.ite ?_ ?_
   | refine LeO.bind ?_ (fun _ => ?_)
  ·intro y0 y1 y2 y3 y4 y5 y6 y7 y8 y9 y10 y11 y12 y13 y14 y15 y16 y17
   unfold spec_Both.j5
   repeat' first
   | (with_reducible exact ih0 _ _ _ _ _ _ _ _ _ _ _)
   | (with_reducible exact ih1 _ _ _ _ _ _ _ _ _ _ _ _ _)
   | (with_reducible exact ih2 _ _ _ _ _ _ _ _ _ _ _ _ _)
   | (with_reducible exact ih3 _ _ _ _ _ _ _ _ _ _ _ _ _ _ _ _)
   | (with_reducible exact ih4 _ _ _ _ _ _ _ _ _ _ _ _ _ _ _ _ _)
   | (with_reducible exact ih5 _ _ _ _ _ _ _ _ _ _ _ _ _ _ _ _ _ _)
   | (with_reducible exact spec_PatternOk.mono _ _ _ _ _ _)
   | (with_reducible exact spec_l01On.mono _ _ _ _ _ _ _)
   | (with_reducible exact LeO.refl _)
   | (with_reducible exact LeO.none _)
   | (with_reducible refine LeO.ite ?_ ?_)
   | (with_reducible refine LeO.bind ?_ (fun _ => ?_))
   | exact ih0 _ _ _ _ _ _ _ _ _ _ _
   | exact ih1 _ _ _ _ _ _ _ _ _ _ _ _ _
   | exact ih2 _ _ _ _ _ _ _ _ _ _ _ _ _
   | exact ih3 _ _ _ _ _ _ _ _ _ _ _ _ _ _ _ _
   | exact ih4 _ _ _ _ _ _ _ _ _ _ _ _ _ _ _ _ _
   | exact ih5 _ _ _ _ _ _ _ _ _ _ _ _ _ _ _ _ _ _
   | exact spec_PatternOk.mono _ _ _ _ _ _
   | exact spec_l01On.mono _ _ _ _ _ _ _
   | exact LeO.none _
   | refine LeO.ite ?_ ?_
   | refine LeO.bind ?_ (fun _ => ?_)
theorem spec_Both.mono : ∀ a0 a1 a2 a3 a4 a5 a6 a7 a8 a9 k, LeO (spec_Both.f k a0 a1 a2 a3 a4 a5 a6 a7 a8 a9) (spec_Both.f (k + 1) a0 a1 a2 a3 a4 a5 a6 a7 a8 a9) := by
 intro a0 a1 a2 a3 a4 a5 a6 a7 a8 a9 k
 obtain ⟨ih0, ih1, ih2, ih3, ih4, ih5⟩ := spec_Both.mono_l k
 unfold spec_Both.f
 repeat' first
   | (with_reducible exact ih0 _ _ _ _ _ _ _ _ _ _ _)
   | (with_reducible exact ih1 _ _ _ _ _ _ _ _ _ _ _ _ _)
   | (with_reducible exact ih2 _ _ _ _ _ _ _ _ _ _ _ _ _)
   | (with_reducible exact ih3 _ _ _ _ _ _ _ _ _ _ _ _ _ _ _ _)
   | (with_reducible exact ih4 _ _ _ _ _ _ _ _ _ _ _ _ _ _ _ _ _)
   | (with_reducible exact ih5 _ _ _ _ _ _ _ _ _ _ _ _ _ _ _ _ _ _)
   | (with_reducible exact spec_PatternOk.mono _ _ _ _ _ _)
   | (with_reducible exact spec_l01On.mono _ _ _ _ _ _ _)
   | (with_reducible exact LeO.refl _)
   | (with_reducible exact LeO.none _)
   | (with_reducible refine LeO.ite ?_ ?_)
   | (with_reducible refine LeO.bind ?_ (fun _ => ?_))
   | exact ih0 _ _ _ _ _ _ _ _ _ _ _
   | exact ih1 _ _ _ _ _ _ _ _ _ _ _ _ _
   | exact ih2 _ _ _ _ _ _ _ _ _ _ _ _ _
   | exact ih3 _ _ _ _ _ _ _ _ _ _ _ _ _ _ _ _
   | exact ih4 _ _ _ _ _ _ _ _ _ _ _ _ _ _ _ _ _
   | exact ih5 _ _ _ _ _ _ _ _ _ _ _ _ _ _ _ _ _ _
   | exact spec_PatternOk.mono _ _ _ _ _ _
   | exact spec_l01On.mono _ _ _ _ _ _ _
   | exact LeO.none _
   | refine LeO.ite ?_ ?_
   | refine LeO.bind ?_ (fun _ => ?_)
set_option maxHeartbeats 8000000 in
set_option maxRecDepth 100000 in
theorem spec_Both.calls (k : Nat) (a0_0 : Int) (a0_1 : Int) (a0_2 : Int) (A0_3 : Option Addr) (c0_3 : Nat) (l0_3 : List Int) (A0_4 : Option Addr) (c0_4 : Nat) (l0_4 : List Int) (a1_0 : Int) (a1_1 : Int) (a1_2 : Int) (A1_3 : Option Addr) (c1_3 : Nat) (l1_3 : List Int) (A1_4 : Option Addr) (c1_4 : Nat) (l1_4 : List Int) (r1 : Int) (r2 : Int) (r3 : Int) (r4 : List Int) (r5 : List Int) (w : World) (hr0_3 : Kd.C (Kd.int .i64) w A0_3 l0_3.length l0_3) (hc0_3 : l0_3.length ≤ c0_3) (hr0_4 : Kd.C (Kd.int .i64) w A0_4 l0_4.length l0_4) (hc0_4 : l0_4.length ≤ c0_4) (hr1_3 : Kd.C (Kd.int .i64) w A1_3 l1_3.length l1_3) (hc1_3 : l1_3.length ≤ c1_3) (hr1_4 : Kd.C (Kd.int .i64) w A1_4 l1_4.length l1_4) (hc1_4 : l1_4.length ≤ c1_4) (h : spec_Both.f k a0_0 a0_1 a0_2 l0_3 l0_4 a1_0 a1_1 a1_2 l1_3 l1_4 = some (r1, r2, r3, r4, r5)) :
  Calls Try.prog 30 #[.agg #[.int .i64 a0_0, .int .i64 a0_1, .int .i64 a0_2, .slice A0_3 l0_3.length c0_3, .slice A0_4 l0_4.length c0_4], .agg #[.int .i64 a1_0, .int .i64 a1_1, .int .i64 a1_2, .slice A1_3 l1_3.length c1_3, .slice A1_4 l1_4.length c1_4]] w fun e w' => ∃ v3_ v4_ : Value, e = .returned (.agg #[.int .i64 r1, .int .i64 r2, .int .i64 r3, v3_, v4_]) ∧ Kd.R (Kd.int .i64) 3 w' w.heap.size (fun k_ => NvBothx5_ k_ v4_) v3_ r4 ∧ Kd.R (Kd.int .i64) 3 w' w.heap.size (fun k_ => NvBothx5_ k_ v3_) v4_ r5 ∧ Below w.heap.size w w' := by
 have hu27 := Try.underlying27
 have HR0_3 := Aside0.mk hr0_3
 have HC0_3 := Aside0.mk hc0_3
 clear hr0_3 hc0_3
 have HR0_4 := Aside0.mk hr0_4
 have HC0_4 := Aside0.mk hc0_4
 clear hr0_4 hc0_4
 have HR1_3 := Aside0.mk hr1_3
 have HC1_3 := Aside0.mk hc1_3
 clear hr1_3 hc1_3
 have HR1_4 := Aside0.mk hr1_4
 have HC1_4 := Aside0.mk hc1_4
 clear hr1_4 hc1_4
 have HB := Aside0.mk (Below.refl w.heap.size w)
 have H := h
 clear h
 unfold spec_Both.f at H
 have HC3 := Aside0.mk H
 clear H
 go_enter Try.func30, Try.ntmps30
 go_upto_region 1 with (first | ((with_reducible refine gate_dst (N := 2) rfl ?_); (try (refine gate_guard (by rfl) ?_; dsimp only)); refine box_event ?hg (N := 2) ?hd (cs := #[.int .i64 a0_0, .int .i64 a0_1, .int .i64 a0_2, .slice A0_3 l0_3.length c0_3, .slice A0_4 l0_4.length c0_4]) (t := 27) ?hr ?_; (case hd => rfl); (case hg => rfl); (case hr => first | (go_simp; done) | (go_simp; rfl)); intro gb151 hg w4 hbox hb; have BK151 := Aside0.mk (hbox); have GW151 := Aside0.mk ((by rw [hg]; exact (below_size HB.out) : w.heap.size ≤ gb151)); have GE151 := Aside0.mk ((by rw [hg]; exact (below_size HB.out) : w.heap.size ≤ gb151)); replace HB := Aside0.mk (below_step HB.out hb); clear hb hbox hg) | ((with_reducible refine gate_dst (N := 3) rfl ?_); (try (refine gate_guard (by rfl) ?_; dsimp only)); refine box_event ?hg (N := 3) ?hd (cs := #[.int .i64 a1_0, .int .i64 a1_1, .int .i64 a1_2, .slice A1_3 l1_3.length c1_3, .slice A1_4 l1_4.length c1_4]) (t := 27) ?hr ?_; (case hd => rfl); (case hg => rfl); (case hr => first | (go_simp; done) | (go_simp; rfl)); intro gb152 hg w5 hbox hb; have BK152 := Aside0.mk (hbox); have GW152 := Aside0.mk ((by rw [hg]; exact (below_size HB.out) : w.heap.size ≤ gb152)); have GE152 := Aside0.mk ((by rw [hg]; exact (below_size HB.out) : w.heap.size ≤ gb152)); replace HB := Aside0.mk (below_step HB.out hb); have NB151_152 := Aside0.mk ((by rw [hg]; exact Nat.ne_of_lt (blk_lt BK151.out) : gb151 ≠ gb152)); have NB152_151 := Aside0.mk ((by rw [hg]; exact Nat.ne_of_gt (blk_lt BK151.out) : gb152 ≠ gb151)); replace BK151 := Aside0.mk (blk_below BK151.out hb); clear hb hbox hg) | ((with_reducible refine gate_dst (N := 4) rfl ?_); (try (refine gate_guard (by rfl) ?_; dsimp only)); refine box_event ?hg (N := 4) ?hd (cs := #[.int .i64 0, .int .i64 0, .int .i64 0, .slice none 0 0, .slice none 0 0]) (t := 27) ?hr ?_; (case hd => rfl); (case hg => rfl); (case hr => first | (go_simp; done) | (go_simp; rfl)); intro gb153 hg w6 hbox hb; have BK153 := Aside0.mk (hbox); have GW153 := Aside0.mk ((by rw [hg]; exact (below_size HB.out) : w.heap.size ≤ gb153)); have GE153 := Aside0.mk ((by rw [hg]; exact (below_size HB.out) : w.heap.size ≤ gb153)); replace HB := Aside0.mk (below_step HB.out hb); have NB151_153 := Aside0.mk ((by rw [hg]; exact Nat.ne_of_lt (blk_lt BK151.out) : gb151 ≠ gb153)); have NB153_151 := Aside0.mk ((by rw [hg]; exact Nat.ne_of_gt (blk_lt BK151.out) : gb153 ≠ gb151)); replace BK151 := Aside0.mk (blk_below BK151.out hb); have NB152_153 := Aside0.mk ((by rw [hg]; exact Nat.ne_of_lt (blk_lt BK152.out) : gb152 ≠ gb153)); have NB153_152 := Aside0.mk ((by rw [hg]; exact Nat.ne_of_gt (blk_lt BK152.out) : gb153 ≠ gb152)); replace BK152 := Aside0.mk (blk_below BK152.out hb); clear hb hbox hg))
 (try simp only [Act.put, List.setIfInBounds_toArray, List.set_cons_zero, List.set_cons_succ])
 go_cut [15] (fun v15 wc => ∃ (kq : Nat) (x15_2 : Bool), v15 = .bool x15_2 ∧ Aside0 (spec_Both.j0 kq x15_2 a0_0 a0_1 a0_2 l0_3 l0_4 a1_0 a1_1 a1_2 l1_3 l1_4 = some (r1, r2, r3, r4, r5)) ∧ Aside0 (kq ≤ k) ∧ Aside0 (wc.heap[gb151]? = some (.cells #[.int .i64 a0_0, .int .i64 a0_1, .int .i64 a0_2, (.slice A0_3 l0_3.length c0_3), (.slice A0_4 l0_4.length c0_4)] 27 (0, 0))) ∧ Aside0 (wc.heap[gb152]? = some (.cells #[.int .i64 a1_0, .int .i64 a1_1, .int .i64 a1_2, (.slice A1_3 l1_3.length c1_3), (.slice A1_4 l1_4.length c1_4)] 27 (0, 0))) ∧ Aside0 (wc.heap[gb153]? = some (.cells #[.int .i64 0, .int .i64 0, .int .i64 0, (.slice none 0 0), (.slice none 0 0)] 27 (0, 0))) ∧ Aside0 (Below w.heap.size w wc))
 case first =>
  have H := HC3.out
  clear HC3
  replace H := Option.bind_eq_some_iff.mp H
  obtain ⟨t154, A70, H⟩ := H
  try dsimp only at H
  have A7 := Aside0.mk A70
  clear A70
  by_cases c8 : t154 = true
  rotate_left
  ·replace c8 := Bool.eq_false_iff.mpr c8
   subst c8
   have H1 : (spec_Both.j0 k true a0_0 a0_1 a0_2 l0_3 l0_4 a1_0 a1_1 a1_2 l1_3 l1_4) = some (r1, r2, r3, r4, r5) := by (first | (rw [if_neg (show ¬ (false = true) by decide)] at H; exact H) | rfl)
   clear H
   have H := H1
   clear H1
   have H' := Aside0.mk H
   clear H
   have hnb17 := NB151_152.out
   have hnc17 := NB152_151.out
   have hnb18 := NB151_153.out
   have hnc18 := NB153_151.out
   have hcz19_0 : w6.cell? ⟨gb151, 0, none⟩ = some (.int .i64 a0_0) := (blk_cell BK151.out 0).trans rfl
   have hcz19_1 : w6.cell? ⟨gb151, 1, none⟩ = some (.int .i64 a0_1) := (blk_cell BK151.out 1).trans rfl
   have hcz19_2 : w6.cell? ⟨gb151, 2, none⟩ = some (.int .i64 a0_2) := (blk_cell BK151.out 2).trans rfl
   have hcz19_3 : w6.cell? ⟨gb151, 3, none⟩ = some (.slice A0_3 l0_3.length c0_3) := (blk_cell BK151.out 3).trans rfl
   have hcz19_4 : w6.cell? ⟨gb151, 4, none⟩ = some (.slice A0_4 l0_4.length c0_4) := (blk_cell BK151.out 4).trans rfl
   have hfz19_0 := blk_frozen BK151.out 0
   have hfz19_1 := blk_frozen BK151.out 1
   have hfz19_2 := blk_frozen BK151.out 2
   have hfz19_3 := blk_frozen BK151.out 3
   have hfz19_4 := blk_frozen BK151.out 4
   go_wp2_with (first | ((with_reducible refine gate_callee (f := 12) rfl ?_); refine goesL_ (some 9) rfl rfl Try.func12 (by kernel_rfl) rfl #[.agg #[.int .i64 a0_0, .int .i64 a0_1, .int .i64 a0_2, .slice A0_3 l0_3.length c0_3, .slice A0_4 l0_4.length c0_4]] rfl (by (try simp only [List.map_toArray, List.map_cons, List.map_nil]); first | done | rfl) ?_; (with_reducible refine (spec_PatternOk.calls k a0_0 a0_1 a0_2 _ _ l0_3 _ _ l0_4 false _ ?side1 ?side2 ?side3 ?side4 A7.out).mono ?_); (case side1 => exact (Kd.C_below HR0_3.out HB.out)); (case side2 => exact HC0_3.out); (case side3 => exact (Kd.C_below HR0_4.out HB.out)); (case side4 => exact HC0_4.out); rintro e w20 ⟨rfl, hb⟩; refine ⟨_, rfl, ?_⟩; replace BK151 := Aside0.mk (blk_below BK151.out hb); replace BK152 := Aside0.mk (blk_below BK152.out hb); replace BK153 := Aside0.mk (blk_below BK153.out hb); replace HB := Aside0.mk (below_step HB.out hb); (try clear hb); (try clear hb2); (try clear hk); (try clear hi)))
   go_meet
   case rel => exact ⟨_, (true), (by first | rfl | (simp; done) | (simp [*]; done)), H', ⟨by first | omega | exact Nat.le_refl _⟩, ⟨by (with_reducible repeat (first | refine blk_drewN ?_ _ | refine blk_drew ?_ | refine blk_alloc ?_ _)); exact BK151.out⟩, ⟨by (with_reducible repeat (first | refine blk_drewN ?_ _ | refine blk_drew ?_ | refine blk_alloc ?_ _)); exact BK152.out⟩, ⟨by (with_reducible repeat (first | refine blk_drewN ?_ _ | refine blk_drew ?_ | refine blk_alloc ?_ _)); exact BK153.out⟩, ⟨by repeat (first | (with_reducible first | exact HB.out | apply below_alloc | apply pw_below_drewN | apply below_drew1 | refine below_set ?_ GE151.out | refine below_set ?_ GE152.out | refine below_set ?_ GE153.out) | exact HB.out)⟩⟩
  subst c8
  rw [if_pos rfl] at H
  replace H := Option.bind_eq_some_iff.mp H
  obtain ⟨t155, A90, H⟩ := H
  replace H : (spec_Both.j0 k (!t155) a0_0 a0_1 a0_2 l0_3 l0_4 a1_0 a1_1 a1_2 l1_3 l1_4) = some (r1, r2, r3, r4, r5) := H
  have A9 := Aside0.mk A90
  clear A90
  have H' := Aside0.mk H
  clear H
  have hnb10 := NB151_152.out
  have hnc10 := NB152_151.out
  have hnb11 := NB151_153.out
  have hnc11 := NB153_151.out
  have hcz12_0 : w6.cell? ⟨gb151, 0, none⟩ = some (.int .i64 a0_0) := (blk_cell BK151.out 0).trans rfl
  have hcz12_1 : w6.cell? ⟨gb151, 1, none⟩ = some (.int .i64 a0_1) := (blk_cell BK151.out 1).trans rfl
  have hcz12_2 : w6.cell? ⟨gb151, 2, none⟩ = some (.int .i64 a0_2) := (blk_cell BK151.out 2).trans rfl
  have hcz12_3 : w6.cell? ⟨gb151, 3, none⟩ = some (.slice A0_3 l0_3.length c0_3) := (blk_cell BK151.out 3).trans rfl
  have hcz12_4 : w6.cell? ⟨gb151, 4, none⟩ = some (.slice A0_4 l0_4.length c0_4) := (blk_cell BK151.out 4).trans rfl
  have hfz12_0 := blk_frozen BK151.out 0
  have hfz12_1 := blk_frozen BK151.out 1
  have hfz12_2 := blk_frozen BK151.out 2
  have hfz12_3 := blk_frozen BK151.out 3
  have hfz12_4 := blk_frozen BK151.out 4
  go_wp2_with (first | ((with_reducible refine gate_callee (f := 12) rfl ?_); refine goesL_ (some 9) rfl rfl Try.func12 (by kernel_rfl) rfl #[.agg #[.int .i64 a0_0, .int .i64 a0_1, .int .i64 a0_2, .slice A0_3 l0_3.length c0_3, .slice A0_4 l0_4.length c0_4]] rfl (by (try simp only [List.map_toArray, List.map_cons, List.map_nil]); first | done | rfl) ?_; (with_reducible refine (spec_PatternOk.calls k a0_0 a0_1 a0_2 _ _ l0_3 _ _ l0_4 true _ ?side1 ?side2 ?side3 ?side4 A7.out).mono ?_); (case side1 => exact (Kd.C_below HR0_3.out HB.out)); (case side2 => exact HC0_3.out); (case side3 => exact (Kd.C_below HR0_4.out HB.out)); (case side4 => exact HC0_4.out); rintro e w13 ⟨rfl, hb⟩; refine ⟨_, rfl, ?_⟩; replace BK151 := Aside0.mk (blk_below BK151.out hb); replace BK152 := Aside0.mk (blk_below BK152.out hb); replace BK153 := Aside0.mk (blk_below BK153.out hb); replace HB := Aside0.mk (below_step HB.out hb); (try clear hb); (try clear hb2); (try clear hk); (try clear hi); have hnb14 := NB152_153.out; have hnc14 := NB153_152.out; have hcz15_0 : w13.cell? ⟨gb152, 0, none⟩ = some (.int .i64 a1_0) := (blk_cell BK152.out 0).trans rfl; have hcz15_1 : w13.cell? ⟨gb152, 1, none⟩ = some (.int .i64 a1_1) := (blk_cell BK152.out 1).trans rfl; have hcz15_2 : w13.cell? ⟨gb152, 2, none⟩ = some (.int .i64 a1_2) := (blk_cell BK152.out 2).trans rfl; have hcz15_3 : w13.cell? ⟨gb152, 3, none⟩ = some (.slice A1_3 l1_3.length c1_3) := (blk_cell BK152.out 3).trans rfl; have hcz15_4 : w13.cell? ⟨gb152, 4, none⟩ = some (.slice A1_4 l1_4.length c1_4) := (blk_cell BK152.out 4).trans rfl; have hfz15_0 := blk_frozen BK152.out 0; have hfz15_1 := blk_frozen BK152.out 1; have hfz15_2 := blk_frozen BK152.out 2; have hfz15_3 := blk_frozen BK152.out 3; have hfz15_4 := blk_frozen BK152.out 4) | (go_at_call 12; (with_reducible refine (spec_PatternOk.calls k a1_0 a1_1 a1_2 _ _ l1_3 _ _ l1_4 t155 _ ?side1 ?side2 ?side3 ?side4 A9.out).mono ?_); (case side1 => exact (Kd.C_below HR1_3.out HB.out)); (case side2 => exact HC1_3.out); (case side3 => exact (Kd.C_below HR1_4.out HB.out)); (case side4 => exact HC1_4.out); rintro e w16 ⟨rfl, hb⟩; replace BK151 := Aside0.mk (blk_below BK151.out hb); replace BK152 := Aside0.mk (blk_below BK152.out hb); replace BK153 := Aside0.mk (blk_below BK153.out hb); replace HB := Aside0.mk (below_step HB.out hb); (try clear hb); (try clear hb2); (try clear hk); (try clear hi)))
  go_meet
  case rel => exact ⟨_, (!t155), (by first | rfl | (simp; done) | (simp [*]; done)), H', ⟨by first | omega | exact Nat.le_refl _⟩, ⟨by (with_reducible repeat (first | refine blk_drewN ?_ _ | refine blk_drew ?_ | refine blk_alloc ?_ _)); exact BK151.out⟩, ⟨by (with_reducible repeat (first | refine blk_drewN ?_ _ | refine blk_drew ?_ | refine blk_alloc ?_ _)); exact BK152.out⟩, ⟨by (with_reducible repeat (first | refine blk_drewN ?_ _ | refine blk_drew ?_ | refine blk_alloc ?_ _)); exact BK153.out⟩, ⟨by repeat (first | (with_reducible first | exact HB.out | apply below_alloc | apply pw_below_drewN | apply below_drew1 | refine below_set ?_ GE151.out | refine below_set ?_ GE152.out | refine below_set ?_ GE153.out) | exact HB.out)⟩⟩
 case rest =>
  clear HC3
  try clear c1
  try clear p2
  try clear c3
  try clear c8
  try clear c10
  try clear c11
  try clear c12
  try clear c14
  try clear c17
  try clear c18
  try clear hcz12_0
  try clear hcz12_1
  try clear hcz12_2
  try clear hcz12_3
  try clear hcz12_4
  try clear hcz15_0
  try clear hcz15_1
  try clear hcz15_2
  try clear hcz15_3
  try clear hcz15_4
  try clear hcz19_0
  try clear hcz19_1
  try clear hcz19_2
  try clear hcz19_3
  try clear hcz19_4
  try clear hfz12_0
  try clear hfz12_1
  try clear hfz12_2
  try clear hfz12_3
  try clear hfz12_4
  try clear hfz15_0
  try clear hfz15_1
  try clear hfz15_2
  try clear hfz15_3
  try clear hfz15_4
  try clear hfz19_0
  try clear hfz19_1
  try clear hfz19_2
  try clear hfz19_3
  try clear hfz19_4
  obtain ⟨kq, x15_2, rfl, HA, HJ2, BK151, BK152, BK153, HB⟩ := hcut
  cases kq with
  | zero => exact absurd HA.out (by simp [spec_Both.j0])
  | succ kj2 =>
   have H := HA.out
   clear HA
   simp only [spec_Both.j0] at H
   by_cases c21 : x15_2 = true
   rotate_left
   ·replace c21 := Bool.eq_false_iff.mpr c21
    subst c21
    have H1 : (if a1_1 > a0_1 then (spec_Both.j1 kj2 a0_0 a0_1 a0_2 l0_3 l0_4 a1_0 a1_1 a1_2 l1_3 l1_4 (Go.bits .and .i64 a0_0 a1_0) a1_1 a0_2) else (spec_Both.j1 kj2 a0_0 a0_1 a0_2 l0_3 l0_4 a1_0 a1_1 a1_2 l1_3 l1_4 (Go.bits .and .i64 a0_0 a1_0) a0_1 a0_2)) = some (r1, r2, r3, r4, r5) := by (first | (rw [if_neg (show ¬ (false = true) by decide)] at H; exact H) | rfl)
    clear H
    have H := H1
    clear H1
    have HC25 := Aside0.mk H
    clear H
    have hnb26 := NB151_152.out
    have hnc26 := NB152_151.out
    have hnb27 := NB151_153.out
    have hnc27 := NB153_151.out
    have hcz28_0 : wc.cell? ⟨gb151, 0, none⟩ = some (.int .i64 a0_0) := (blk_cell BK151.out 0).trans rfl
    have hcz28_1 : wc.cell? ⟨gb151, 1, none⟩ = some (.int .i64 a0_1) := (blk_cell BK151.out 1).trans rfl
    have hcz28_2 : wc.cell? ⟨gb151, 2, none⟩ = some (.int .i64 a0_2) := (blk_cell BK151.out 2).trans rfl
    have hcz28_3 : wc.cell? ⟨gb151, 3, none⟩ = some (.slice A0_3 l0_3.length c0_3) := (blk_cell BK151.out 3).trans rfl
    have hcz28_4 : wc.cell? ⟨gb151, 4, none⟩ = some (.slice A0_4 l0_4.length c0_4) := (blk_cell BK151.out 4).trans rfl
    have hfz28_0 := blk_frozen BK151.out 0
    have hfz28_1 := blk_frozen BK151.out 1
    have hfz28_2 := blk_frozen BK151.out 2
    have hfz28_3 := blk_frozen BK151.out 3
    have hfz28_4 := blk_frozen BK151.out 4
    have hnb29 := NB152_153.out
    have hnc29 := NB153_152.out
    have hcz30_0 : wc.cell? ⟨gb152, 0, none⟩ = some (.int .i64 a1_0) := (blk_cell BK152.out 0).trans rfl
    have hcz30_1 : wc.cell? ⟨gb152, 1, none⟩ = some (.int .i64 a1_1) := (blk_cell BK152.out 1).trans rfl
    have hcz30_2 : wc.cell? ⟨gb152, 2, none⟩ = some (.int .i64 a1_2) := (blk_cell BK152.out 2).trans rfl
    have hcz30_3 : wc.cell? ⟨gb152, 3, none⟩ = some (.slice A1_3 l1_3.length c1_3) := (blk_cell BK152.out 3).trans rfl
    have hcz30_4 : wc.cell? ⟨gb152, 4, none⟩ = some (.slice A1_4 l1_4.length c1_4) := (blk_cell BK152.out 4).trans rfl
    have hfz30_0 := blk_frozen BK152.out 0
    have hfz30_1 := blk_frozen BK152.out 1
    have hfz30_2 := blk_frozen BK152.out 2
    have hfz30_3 := blk_frozen BK152.out 3
    have hfz30_4 := blk_frozen BK152.out 4
    go_upto_if 31 with (first | ((with_reducible refine gate_dst (N := 5) rfl ?_); (try (refine gate_guard (by rfl) ?_; dsimp only)); refine box_event ?hg (N := 5) ?hd (cs := #[.int .i64 0, .int .i64 0, .int .i64 0, .slice none 0 0, .slice none 0 0]) (t := 27) ?hr ?_; (case hd => rfl); (case hg => rfl); (case hr => first | (go_simp; done) | (go_simp; rfl)); intro gb156 hg w31 hbox hb; have BK156 := Aside0.mk (hbox); have GW156 := Aside0.mk ((by rw [hg]; exact (below_size HB.out) : w.heap.size ≤ gb156)); have GE156 := Aside0.mk ((by rw [hg]; exact (below_size HB.out) : w.heap.size ≤ gb156)); replace HB := Aside0.mk (below_step HB.out hb); have NB151_156 := Aside0.mk ((by rw [hg]; exact Nat.ne_of_lt (blk_lt BK151.out) : gb151 ≠ gb156)); have NB156_151 := Aside0.mk ((by rw [hg]; exact Nat.ne_of_gt (blk_lt BK151.out) : gb156 ≠ gb151)); replace BK151 := Aside0.mk (blk_below BK151.out hb); have NB152_156 := Aside0.mk ((by rw [hg]; exact Nat.ne_of_lt (blk_lt BK152.out) : gb152 ≠ gb156)); have NB156_152 := Aside0.mk ((by rw [hg]; exact Nat.ne_of_gt (blk_lt BK152.out) : gb156 ≠ gb152)); replace BK152 := Aside0.mk (blk_below BK152.out hb); have NB153_156 := Aside0.mk ((by rw [hg]; exact Nat.ne_of_lt (blk_lt BK153.out) : gb153 ≠ gb156)); have NB156_153 := Aside0.mk ((by rw [hg]; exact Nat.ne_of_gt (blk_lt BK153.out) : gb156 ≠ gb153)); replace BK153 := Aside0.mk (blk_below BK153.out hb); clear hb hbox hg; have hnb32 := NB156_151.out; have hnc32 := NB151_156.out; have hnb33 := NB156_152.out; have hnc33 := NB152_156.out; have hnb34 := NB156_153.out; have hnc34 := NB153_156.out; have hcz35_0 : w31.cell? ⟨gb156, 0, none⟩ = some (.int .i64 0) := (blk_cell BK156.out 0).trans rfl; have hcz35_1 : w31.cell? ⟨gb156, 1, none⟩ = some (.int .i64 0) := (blk_cell BK156.out 1).trans rfl; have hcz35_2 : w31.cell? ⟨gb156, 2, none⟩ = some (.int .i64 0) := (blk_cell BK156.out 2).trans rfl; have hcz35_3 : w31.cell? ⟨gb156, 3, none⟩ = some (.slice none 0 0) := (blk_cell BK156.out 3).trans rfl; have hcz35_4 : w31.cell? ⟨gb156, 4, none⟩ = some (.slice none 0 0) := (blk_cell BK156.out 4).trans rfl; have hfz35_0 := blk_frozen BK156.out 0; have hfz35_1 := blk_frozen BK156.out 1; have hfz35_2 := blk_frozen BK156.out 2; have hfz35_3 := blk_frozen BK156.out 3; have hfz35_4 := blk_frozen BK156.out 4; have hcz36_0 : w31.cell? ⟨gb152, 0, none⟩ = some (.int .i64 a1_0) := (blk_cell BK152.out 0).trans rfl; have hcz36_1 : w31.cell? ⟨gb152, 1, none⟩ = some (.int .i64 a1_1) := (blk_cell BK152.out 1).trans rfl; have hcz36_2 : w31.cell? ⟨gb152, 2, none⟩ = some (.int .i64 a1_2) := (blk_cell BK152.out 2).trans rfl; have hcz36_3 : w31.cell? ⟨gb152, 3, none⟩ = some (.slice A1_3 l1_3.length c1_3) := (blk_cell BK152.out 3).trans rfl; have hcz36_4 : w31.cell? ⟨gb152, 4, none⟩ = some (.slice A1_4 l1_4.length c1_4) := (blk_cell BK152.out 4).trans rfl; have hfz36_0 := blk_frozen BK152.out 0; have hfz36_1 := blk_frozen BK152.out 1; have hfz36_2 := blk_frozen BK152.out 2; have hfz36_3 := blk_frozen BK152.out 3; have hfz36_4 := blk_frozen BK152.out 4))
    (try simp only [Act.put, List.setIfInBounds_toArray, List.set_cons_zero, List.set_cons_succ])
    go_cut [] (fun wc => ∃ (kq : Nat) (x157001_24 : Int), Aside0 (spec_Both.j1 kq a0_0 a0_1 a0_2 l0_3 l0_4 a1_0 a1_1 a1_2 l1_3 l1_4 (Go.bits .and .i64 a0_0 a1_0) x157001_24 a0_2 = some (r1, r2, r3, r4, r5)) ∧ Aside0 (kq ≤ kj2) ∧ Aside0 (wc.heap[gb151]? = some (.cells #[.int .i64 a0_0, .int .i64 a0_1, .int .i64 a0_2, (.slice A0_3 l0_3.length c0_3), (.slice A0_4 l0_4.length c0_4)] 27 (0, 0))) ∧ Aside0 (wc.heap[gb152]? = some (.cells #[.int .i64 a1_0, .int .i64 a1_1, .int .i64 a1_2, (.slice A1_3 l1_3.length c1_3), (.slice A1_4 l1_4.length c1_4)] 27 (0, 0))) ∧ Aside0 (wc.heap[gb153]? = some (.cells #[.int .i64 0, .int .i64 0, .int .i64 0, (.slice none 0 0), (.slice none 0 0)] 27 (0, 0))) ∧ Aside0 (wc.heap[gb156]? = some (.cells #[.int .i64 (Go.bits .and .i64 a0_0 a1_0), .int .i64 x157001_24, .int .i64 a0_2, (.slice none 0 0), (.slice none 0 0)] 27 (0, 0))) ∧ Aside0 (Below w.heap.size w wc))
    case first =>
     have H := HC25.out
     clear HC25
     by_cases c37 : a1_1 > a0_1
     rotate_left
     ·rw [if_neg c37] at H
      have c37b0 : decide (a0_1 < a1_1) = false := decide_eq_false c37
      clear c37
      (first | rw [c37b0] | (simp only [i64_w, i32_w]; rw [c37b0]) | rw [c37b1] | skip)
      have H' := Aside0.mk H
      clear H
      go_wp2
      go_meet
      case rel => exact ⟨_, (a0_1), H', ⟨by have := HJ2.out; first | omega | exact Nat.le_refl _⟩, ⟨by (with_reducible repeat (first | refine blk_drewN ?_ _ | refine blk_drew ?_ | refine blk_alloc ?_ _)); refine blk_far ?_ NB151_156.out _; (with_reducible repeat (first | refine blk_drewN ?_ _ | refine blk_drew ?_ | refine blk_alloc ?_ _)); refine blk_far ?_ NB151_156.out _; (with_reducible repeat (first | refine blk_drewN ?_ _ | refine blk_drew ?_ | refine blk_alloc ?_ _)); refine blk_far ?_ NB151_156.out _; (with_reducible repeat (first | refine blk_drewN ?_ _ | refine blk_drew ?_ | refine blk_alloc ?_ _)); refine blk_far ?_ NB151_156.out _; (with_reducible repeat (first | refine blk_drewN ?_ _ | refine blk_drew ?_ | refine blk_alloc ?_ _)); refine blk_far ?_ NB151_156.out _; (with_reducible repeat (first | refine blk_drewN ?_ _ | refine blk_drew ?_ | refine blk_alloc ?_ _)); exact BK151.out⟩, ⟨by (with_reducible repeat (first | refine blk_drewN ?_ _ | refine blk_drew ?_ | refine blk_alloc ?_ _)); refine blk_far ?_ NB152_156.out _; (with_reducible repeat (first | refine blk_drewN ?_ _ | refine blk_drew ?_ | refine blk_alloc ?_ _)); refine blk_far ?_ NB152_156.out _; (with_reducible repeat (first | refine blk_drewN ?_ _ | refine blk_drew ?_ | refine blk_alloc ?_ _)); refine blk_far ?_ NB152_156.out _; (with_reducible repeat (first | refine blk_drewN ?_ _ | refine blk_drew ?_ | refine blk_alloc ?_ _)); refine blk_far ?_ NB152_156.out _; (with_reducible repeat (first | refine blk_drewN ?_ _ | refine blk_drew ?_ | refine blk_alloc ?_ _)); refine blk_far ?_ NB152_156.out _; (with_reducible repeat (first | refine blk_drewN ?_ _ | refine blk_drew ?_ | refine blk_alloc ?_ _)); exact BK152.out⟩, ⟨by (with_reducible repeat (first | refine blk_drewN ?_ _ | refine blk_drew ?_ | refine blk_alloc ?_ _)); refine blk_far ?_ NB153_156.out _; (with_reducible repeat (first | refine blk_drewN ?_ _ | refine blk_drew ?_ | refine blk_alloc ?_ _)); refine blk_far ?_ NB153_156.out _; (with_reducible repeat (first | refine blk_drewN ?_ _ | refine blk_drew ?_ | refine blk_alloc ?_ _)); refine blk_far ?_ NB153_156.out _; (with_reducible repeat (first | refine blk_drewN ?_ _ | refine blk_drew ?_ | refine blk_alloc ?_ _)); refine blk_far ?_ NB153_156.out _; (with_reducible repeat (first | refine blk_drewN ?_ _ | refine blk_drew ?_ | refine blk_alloc ?_ _)); refine blk_far ?_ NB153_156.out _; (with_reducible repeat (first | refine blk_drewN ?_ _ | refine blk_drew ?_ | refine blk_alloc ?_ _)); exact BK153.out⟩, ⟨by (with_reducible repeat (first | refine blk_drewN ?_ _ | refine blk_drew ?_ | refine blk_alloc ?_ _)); refine blk_put (cs := #[.int .i64 (Go.bits .and .i64 a0_0 a1_0), .int .i64 a0_1, .int .i64 a0_2, .slice none 0 0, .slice none 0 0]) ?_ 4 _ rfl; (with_reducible repeat (first | refine blk_drewN ?_ _ | refine blk_drew ?_ | refine blk_alloc ?_ _)); refine blk_put (cs := #[.int .i64 (Go.bits .and .i64 a0_0 a1_0), .int .i64 a0_1, .int .i64 a0_2, .slice none 0 0, .slice none 0 0]) ?_ 3 _ rfl; (with_reducible repeat (first | refine blk_drewN ?_ _ | refine blk_drew ?_ | refine blk_alloc ?_ _)); refine blk_put (cs := #[.int .i64 (Go.bits .and .i64 a0_0 a1_0), .int .i64 a0_1, .int .i64 0, .slice none 0 0, .slice none 0 0]) ?_ 2 _ rfl; (with_reducible repeat (first | refine blk_drewN ?_ _ | refine blk_drew ?_ | refine blk_alloc ?_ _)); refine blk_put (cs := #[.int .i64 (Go.bits .and .i64 a0_0 a1_0), .int .i64 0, .int .i64 0, .slice none 0 0, .slice none 0 0]) ?_ 1 _ rfl; (with_reducible repeat (first | refine blk_drewN ?_ _ | refine blk_drew ?_ | refine blk_alloc ?_ _)); refine blk_put (cs := #[.int .i64 0, .int .i64 0, .int .i64 0, .slice none 0 0, .slice none 0 0]) ?_ 0 _ rfl; (with_reducible repeat (first | refine blk_drewN ?_ _ | refine blk_drew ?_ | refine blk_alloc ?_ _)); exact BK156.out⟩, ⟨by repeat (first | (with_reducible first | exact HB.out | apply below_alloc | apply pw_below_drewN | apply below_drew1 | refine below_set ?_ GE151.out | refine below_set ?_ GE152.out | refine below_set ?_ GE153.out | refine below_set ?_ GE156.out) | exact HB.out)⟩⟩
     rw [if_pos c37] at H
     have c37b0 : decide (a0_1 < a1_1) = true := decide_eq_true c37
     clear c37
     (first | rw [c37b0] | (simp only [i64_w, i32_w]; rw [c37b0]) | rw [c37b1] | skip)
     have H' := Aside0.mk H
     clear H
     have hnb38 := NB152_151.out
     have hnc38 := NB151_152.out
     have hnb39 := NB152_153.out
     have hnc39 := NB153_152.out
     have hnb40 := NB152_156.out
     have hnc40 := NB156_152.out
     have hcz41_0 : w31.cell? ⟨gb152, 0, none⟩ = some (.int .i64 a1_0) := (blk_cell BK152.out 0).trans rfl
     have hcz41_1 : w31.cell? ⟨gb152, 1, none⟩ = some (.int .i64 a1_1) := (blk_cell BK152.out 1).trans rfl
     have hcz41_2 : w31.cell? ⟨gb152, 2, none⟩ = some (.int .i64 a1_2) := (blk_cell BK152.out 2).trans rfl
     have hcz41_3 : w31.cell? ⟨gb152, 3, none⟩ = some (.slice A1_3 l1_3.length c1_3) := (blk_cell BK152.out 3).trans rfl
     have hcz41_4 : w31.cell? ⟨gb152, 4, none⟩ = some (.slice A1_4 l1_4.length c1_4) := (blk_cell BK152.out 4).trans rfl
     have hfz41_0 := blk_frozen BK152.out 0
     have hfz41_1 := blk_frozen BK152.out 1
     have hfz41_2 := blk_frozen BK152.out 2
     have hfz41_3 := blk_frozen BK152.out 3
     have hfz41_4 := blk_frozen BK152.out 4
     have hnb42 := NB156_151.out
     have hnc42 := NB151_156.out
     have hnb43 := NB156_153.out
     have hnc43 := NB153_156.out
     have hcz44_0 : w31.cell? ⟨gb156, 0, none⟩ = some (.int .i64 0) := (blk_cell BK156.out 0).trans rfl
     have hcz44_1 : w31.cell? ⟨gb156, 1, none⟩ = some (.int .i64 0) := (blk_cell BK156.out 1).trans rfl
     have hcz44_2 : w31.cell? ⟨gb156, 2, none⟩ = some (.int .i64 0) := (blk_cell BK156.out 2).trans rfl
     have hcz44_3 : w31.cell? ⟨gb156, 3, none⟩ = some (.slice none 0 0) := (blk_cell BK156.out 3).trans rfl
     have hcz44_4 : w31.cell? ⟨gb156, 4, none⟩ = some (.slice none 0 0) := (blk_cell BK156.out 4).trans rfl
     have hfz44_0 := blk_frozen BK156.out 0
     have hfz44_1 := blk_frozen BK156.out 1
     have hfz44_2 := blk_frozen BK156.out 2
     have hfz44_3 := blk_frozen BK156.out 3
     have hfz44_4 := blk_frozen BK156.out 4
     go_wp2
     go_meet
     case rel => exact ⟨_, (a1_1), H', ⟨by have := HJ2.out; first | omega | exact Nat.le_refl _⟩, ⟨by (with_reducible repeat (first | refine blk_drewN ?_ _ | refine blk_drew ?_ | refine blk_alloc ?_ _)); refine blk_far ?_ NB151_156.out _; (with_reducible repeat (first | refine blk_drewN ?_ _ | refine blk_drew ?_ | refine blk_alloc ?_ _)); refine blk_far ?_ NB151_156.out _; (with_reducible repeat (first | refine blk_drewN ?_ _ | refine blk_drew ?_ | refine blk_alloc ?_ _)); refine blk_far ?_ NB151_156.out _; (with_reducible repeat (first | refine blk_drewN ?_ _ | refine blk_drew ?_ | refine blk_alloc ?_ _)); refine blk_far ?_ NB151_156.out _; (with_reducible repeat (first | refine blk_drewN ?_ _ | refine blk_drew ?_ | refine blk_alloc ?_ _)); refine blk_far ?_ NB151_156.out _; (with_reducible repeat (first | refine blk_drewN ?_ _ | refine blk_drew ?_ | refine blk_alloc ?_ _)); refine blk_far ?_ NB151_156.out _; (with_reducible repeat (first | refine blk_drewN ?_ _ | refine blk_drew ?_ | refine blk_alloc ?_ _)); exact BK151.out⟩, ⟨by (with_reducible repeat (first | refine blk_drewN ?_ _ | refine blk_drew ?_ | refine blk_alloc ?_ _)); refine blk_far ?_ NB152_156.out _; (with_reducible repeat (first | refine blk_drewN ?_ _ | refine blk_drew ?_ | refine blk_alloc ?_ _)); refine blk_far ?_ NB152_156.out _; (with_reducible repeat (first | refine blk_drewN ?_ _ | refine blk_drew ?_ | refine blk_alloc ?_ _)); refine blk_far ?_ NB152_156.out _; (with_reducible repeat (first | refine blk_drewN ?_ _ | refine blk_drew ?_ | refine blk_alloc ?_ _)); refine blk_far ?_ NB152_156.out _; (with_reducible repeat (first | refine blk_drewN ?_ _ | refine blk_drew ?_ | refine blk_alloc ?_ _)); refine blk_far ?_ NB152_156.out _; (with_reducible repeat (first | refine blk_drewN ?_ _ | refine blk_drew ?_ | refine blk_alloc ?_ _)); refine blk_far ?_ NB152_156.out _; (with_reducible repeat (first | refine blk_drewN ?_ _ | refine blk_drew ?_ | refine blk_alloc ?_ _)); exact BK152.out⟩, ⟨by (with_reducible repeat (first | refine blk_drewN ?_ _ | refine blk_drew ?_ | refine blk_alloc ?_ _)); refine blk_far ?_ NB153_156.out _; (with_reducible repeat (first | refine blk_drewN ?_ _ | refine blk_drew ?_ | refine blk_alloc ?_ _)); refine blk_far ?_ NB153_156.out _; (with_reducible repeat (first | refine blk_drewN ?_ _ | refine blk_drew ?_ | refine blk_alloc ?_ _)); refine blk_far ?_ NB153_156.out _; (with_reducible repeat (first | refine blk_drewN ?_ _ | refine blk_drew ?_ | refine blk_alloc ?_ _)); refine blk_far ?_ NB153_156.out _; (with_reducible repeat (first | refine blk_drewN ?_ _ | refine blk_drew ?_ | refine blk_alloc ?_ _)); refine blk_far ?_ NB153_156.out _; (with_reducible repeat (first | refine blk_drewN ?_ _ | refine blk_drew ?_ | refine blk_alloc ?_ _)); refine blk_far ?_ NB153_156.out _; (with_reducible repeat (first | refine blk_drewN ?_ _ | refine blk_drew ?_ | refine blk_alloc ?_ _)); exact BK153.out⟩, ⟨by (with_reducible repeat (first | refine blk_drewN ?_ _ | refine blk_drew ?_ | refine blk_alloc ?_ _)); refine blk_put (cs := #[.int .i64 (Go.bits .and .i64 a0_0 a1_0), .int .i64 a0_1, .int .i64 a0_2, .slice none 0 0, .slice none 0 0]) ?_ 1 _ rfl; (with_reducible repeat (first | refine blk_drewN ?_ _ | refine blk_drew ?_ | refine blk_alloc ?_ _)); refine blk_put (cs := #[.int .i64 (Go.bits .and .i64 a0_0 a1_0), .int .i64 a0_1, .int .i64 a0_2, .slice none 0 0, .slice none 0 0]) ?_ 4 _ rfl; (with_reducible repeat (first | refine blk_drewN ?_ _ | refine blk_drew ?_ | refine blk_alloc ?_ _)); refine blk_put (cs := #[.int .i64 (Go.bits .and .i64 a0_0 a1_0), .int .i64 a0_1, .int .i64 a0_2, .slice none 0 0, .slice none 0 0]) ?_ 3 _ rfl; (with_reducible repeat (first | refine blk_drewN ?_ _ | refine blk_drew ?_ | refine blk_alloc ?_ _)); refine blk_put (cs := #[.int .i64 (Go.bits .and .i64 a0_0 a1_0), .int .i64 a0_1, .int .i64 0, .slice none 0 0, .slice none 0 0]) ?_ 2 _ rfl; (with_reducible repeat (first | refine blk_drewN ?_ _ | refine blk_drew ?_ | refine blk_alloc ?_ _)); refine blk_put (cs := #[.int .i64 (Go.bits .and .i64 a0_0 a1_0), .int .i64 0, .int .i64 0, .slice none 0 0, .slice none 0 0]) ?_ 1 _ rfl; (with_reducible repeat (first | refine blk_drewN ?_ _ | refine blk_drew ?_ | refine blk_alloc ?_ _)); refine blk_put (cs := #[.int .i64 0, .int .i64 0, .int .i64 0, .slice none 0 0, .slice none 0 0]) ?_ 0 _ rfl; (with_reducible repeat (first | refine blk_drewN ?_ _ | refine blk_drew ?_ | refine blk_alloc ?_ _)); exact BK156.out⟩, ⟨by repeat (first | (with_reducible first | exact HB.out | apply below_alloc | apply pw_below_drewN | apply below_drew1 | refine below_set ?_ GE151.out | refine below_set ?_ GE152.out | refine below_set ?_ GE153.out | refine below_set ?_ GE156.out) | exact HB.out)⟩⟩
    case rest =>
     clear HC25
     try clear c1
     try clear c2
     try clear p2
     try clear c3
     try clear c4
     try clear c8
     try clear c10
     try clear c11
     try clear c12
     try clear c14
     try clear c17
     try clear c18
     try clear c21
     try clear c22
     try clear c23
     try clear c26
     try clear c27
     try clear c29
     try clear c30
     try clear c32
     try clear c33
     try clear c34
     try clear c37
     try clear c37b0
     try clear c37b1
     try clear c38
     try clear c39
     try clear c40
     try clear c42
     try clear c43
     try clear hcz12_0
     try clear hcz12_1
     try clear hcz12_2
     try clear hcz12_3
     try clear hcz12_4
     try clear hcz15_0
     try clear hcz15_1
     try clear hcz15_2
     try clear hcz15_3
     try clear hcz15_4
     try clear hcz19_0
     try clear hcz19_1
     try clear hcz19_2
     try clear hcz19_3
     try clear hcz19_4
     try clear hcz24_0
     try clear hcz24_1
     try clear hcz24_2
     try clear hcz24_3
     try clear hcz24_4
     try clear hcz28_0
     try clear hcz28_1
     try clear hcz28_2
     try clear hcz28_3
     try clear hcz28_4
     try clear hcz30_0
     try clear hcz30_1
     try clear hcz30_2
     try clear hcz30_3
     try clear hcz30_4
     try clear hcz35_0
     try clear hcz35_1
     try clear hcz35_2
     try clear hcz35_3
     try clear hcz35_4
     try clear hcz36_0
     try clear hcz36_1
     try clear hcz36_2
     try clear hcz36_3
     try clear hcz36_4
     try clear hcz41_0
     try clear hcz41_1
     try clear hcz41_2
     try clear hcz41_3
     try clear hcz41_4
     try clear hcz44_0
     try clear hcz44_1
     try clear hcz44_2
     try clear hcz44_3
     try clear hcz44_4
     try clear hfz12_0
     try clear hfz12_1
     try clear hfz12_2
     try clear hfz12_3
     try clear hfz12_4
     try clear hfz15_0
     try clear hfz15_1
     try clear hfz15_2
     try clear hfz15_3
     try clear hfz15_4
     try clear hfz19_0
     try clear hfz19_1
     try clear hfz19_2
     try clear hfz19_3
     try clear hfz19_4
     try clear hfz24_0
     try clear hfz24_1
     try clear hfz24_2
     try clear hfz24_3
     try clear hfz24_4
     try clear hfz28_0
     try clear hfz28_1
     try clear hfz28_2
     try clear hfz28_3
     try clear hfz28_4
     try clear hfz30_0
     try clear hfz30_1
     try clear hfz30_2
     try clear hfz30_3
     try clear hfz30_4
     try clear hfz35_0
     try clear hfz35_1
     try clear hfz35_2
     try clear hfz35_3
     try clear hfz35_4
     try clear hfz36_0
     try clear hfz36_1
     try clear hfz36_2
     try clear hfz36_3
     try clear hfz36_4
     try clear hfz41_0
     try clear hfz41_1
     try clear hfz41_2
     try clear hfz41_3
     try clear hfz41_4
     try clear hfz44_0
     try clear hfz44_1
     try clear hfz44_2
     try clear hfz44_3
     try clear hfz44_4
     try clear p2
     obtain ⟨kq, x157001_24, HA, HJ24, BK151, BK152, BK153, BK156, HB⟩ := hcut
     cases kq with
     | zero => exact absurd HA.out (by simp [spec_Both.j1])
     | succ kj24 =>
      have H := HA.out
      clear HA
      simp only [spec_Both.j1] at H
      have HC45 := Aside0.mk H
      clear H
      have hnb46 := NB152_151.out
      have hnc46 := NB151_152.out
      have hnb47 := NB152_153.out
      have hnc47 := NB153_152.out
      have hnb48 := NB152_156.out
      have hnc48 := NB156_152.out
      have hcz49_0 : wc.cell? ⟨gb152, 0, none⟩ = some (.int .i64 a1_0) := (blk_cell BK152.out 0).trans rfl
      have hcz49_1 : wc.cell? ⟨gb152, 1, none⟩ = some (.int .i64 a1_1) := (blk_cell BK152.out 1).trans rfl
      have hcz49_2 : wc.cell? ⟨gb152, 2, none⟩ = some (.int .i64 a1_2) := (blk_cell BK152.out 2).trans rfl
      have hcz49_3 : wc.cell? ⟨gb152, 3, none⟩ = some (.slice A1_3 l1_3.length c1_3) := (blk_cell BK152.out 3).trans rfl
      have hcz49_4 : wc.cell? ⟨gb152, 4, none⟩ = some (.slice A1_4 l1_4.length c1_4) := (blk_cell BK152.out 4).trans rfl
      have hfz49_0 := blk_frozen BK152.out 0
      have hfz49_1 := blk_frozen BK152.out 1
      have hfz49_2 := blk_frozen BK152.out 2
      have hfz49_3 := blk_frozen BK152.out 3
      have hfz49_4 := blk_frozen BK152.out 4
      have hnb50 := NB156_151.out
      have hnc50 := NB151_156.out
      have hnb51 := NB156_153.out
      have hnc51 := NB153_156.out
      have hcz52_0 : wc.cell? ⟨gb156, 0, none⟩ = some (.int .i64 (Go.bits .and .i64 a0_0 a1_0)) := (blk_cell BK156.out 0).trans rfl
      have hcz52_1 : wc.cell? ⟨gb156, 1, none⟩ = some (.int .i64 x157001_24) := (blk_cell BK156.out 1).trans rfl
      have hcz52_2 : wc.cell? ⟨gb156, 2, none⟩ = some (.int .i64 a0_2) := (blk_cell BK156.out 2).trans rfl
      have hcz52_3 : wc.cell? ⟨gb156, 3, none⟩ = some (.slice none 0 0) := (blk_cell BK156.out 3).trans rfl
      have hcz52_4 : wc.cell? ⟨gb156, 4, none⟩ = some (.slice none 0 0) := (blk_cell BK156.out 4).trans rfl
      have hfz52_0 := blk_frozen BK156.out 0
      have hfz52_1 := blk_frozen BK156.out 1
      have hfz52_2 := blk_frozen BK156.out 2
      have hfz52_3 := blk_frozen BK156.out 3
      have hfz52_4 := blk_frozen BK156.out 4
      go_upto_if 39 with (fail)
      go_cut [] (fun wc => ∃ (kq : Nat) (x157002_44 : Int), Aside0 (spec_Both.j2 kq a0_0 a0_1 a0_2 l0_3 l0_4 a1_0 a1_1 a1_2 l1_3 l1_4 (Go.bits .and .i64 a0_0 a1_0) x157001_24 x157002_44 = some (r1, r2, r3, r4, r5)) ∧ Aside0 (kq ≤ kj24) ∧ Aside0 (wc.heap[gb151]? = some (.cells #[.int .i64 a0_0, .int .i64 a0_1, .int .i64 a0_2, (.slice A0_3 l0_3.length c0_3), (.slice A0_4 l0_4.length c0_4)] 27 (0, 0))) ∧ Aside0 (wc.heap[gb152]? = some (.cells #[.int .i64 a1_0, .int .i64 a1_1, .int .i64 a1_2, (.slice A1_3 l1_3.length c1_3), (.slice A1_4 l1_4.length c1_4)] 27 (0, 0))) ∧ Aside0 (wc.heap[gb153]? = some (.cells #[.int .i64 0, .int .i64 0, .int .i64 0, (.slice none 0 0), (.slice none 0 0)] 27 (0, 0))) ∧ Aside0 (wc.heap[gb156]? = some (.cells #[.int .i64 (Go.bits .and .i64 a0_0 a1_0), .int .i64 x157001_24, .int .i64 x157002_44, (.slice none 0 0), (.slice none 0 0)] 27 (0, 0))) ∧ Aside0 (Below w.heap.size w wc))
      case first =>
       have H := HC45.out
       clear HC45
       by_cases c53 : a1_2 < a0_2
       rotate_left
       ·rw [if_neg c53] at H
        have c53b0 : decide (a1_2 < a0_2) = false := decide_eq_false c53
        clear c53
        (first | rw [c53b0] | (simp only [i64_w, i32_w]; rw [c53b0]) | rw [c53b1] | skip)
        have H' := Aside0.mk H
        clear H
        go_wp2
        go_meet
        case rel => exact ⟨_, (a0_2), H', ⟨by have := HJ2.out; have := HJ24.out; first | omega | exact Nat.le_refl _⟩, ⟨by (with_reducible repeat (first | refine blk_drewN ?_ _ | refine blk_drew ?_ | refine blk_alloc ?_ _)); exact BK151.out⟩, ⟨by (with_reducible repeat (first | refine blk_drewN ?_ _ | refine blk_drew ?_ | refine blk_alloc ?_ _)); exact BK152.out⟩, ⟨by (with_reducible repeat (first | refine blk_drewN ?_ _ | refine blk_drew ?_ | refine blk_alloc ?_ _)); exact BK153.out⟩, ⟨by (with_reducible repeat (first | refine blk_drewN ?_ _ | refine blk_drew ?_ | refine blk_alloc ?_ _)); exact BK156.out⟩, ⟨by repeat (first | (with_reducible first | exact HB.out | apply below_alloc | apply pw_below_drewN | apply below_drew1 | refine below_set ?_ GE151.out | refine below_set ?_ GE152.out | refine below_set ?_ GE153.out | refine below_set ?_ GE156.out) | exact HB.out)⟩⟩
       rw [if_pos c53] at H
       have c53b0 : decide (a1_2 < a0_2) = true := decide_eq_true c53
       clear c53
       (first | rw [c53b0] | (simp only [i64_w, i32_w]; rw [c53b0]) | rw [c53b1] | skip)
       have H' := Aside0.mk H
       clear H
       have hnb54 := NB152_151.out
       have hnc54 := NB151_152.out
       have hnb55 := NB152_153.out
       have hnc55 := NB153_152.out
       have hnb56 := NB152_156.out
       have hnc56 := NB156_152.out
       have hcz57_0 : wc.cell? ⟨gb152, 0, none⟩ = some (.int .i64 a1_0) := (blk_cell BK152.out 0).trans rfl
       have hcz57_1 : wc.cell? ⟨gb152, 1, none⟩ = some (.int .i64 a1_1) := (blk_cell BK152.out 1).trans rfl
       have hcz57_2 : wc.cell? ⟨gb152, 2, none⟩ = some (.int .i64 a1_2) := (blk_cell BK152.out 2).trans rfl
       have hcz57_3 : wc.cell? ⟨gb152, 3, none⟩ = some (.slice A1_3 l1_3.length c1_3) := (blk_cell BK152.out 3).trans rfl
       have hcz57_4 : wc.cell? ⟨gb152, 4, none⟩ = some (.slice A1_4 l1_4.length c1_4) := (blk_cell BK152.out 4).trans rfl
       have hfz57_0 := blk_frozen BK152.out 0
       have hfz57_1 := blk_frozen BK152.out 1
       have hfz57_2 := blk_frozen BK152.out 2
       have hfz57_3 := blk_frozen BK152.out 3
       have hfz57_4 := blk_frozen BK152.out 4
       have hnb58 := NB156_151.out
       have hnc58 := NB151_156.out
       have hnb59 := NB156_153.out
       have hnc59 := NB153_156.out
       have hcz60_0 : wc.cell? ⟨gb156, 0, none⟩ = some (.int .i64 (Go.bits .and .i64 a0_0 a1_0)) := (blk_cell BK156.out 0).trans rfl
       have hcz60_1 : wc.cell? ⟨gb156, 1, none⟩ = some (.int .i64 x157001_24) := (blk_cell BK156.out 1).trans rfl
       have hcz60_2 : wc.cell? ⟨gb156, 2, none⟩ = some (.int .i64 a0_2) := (blk_cell BK156.out 2).trans rfl
       have hcz60_3 : wc.cell? ⟨gb156, 3, none⟩ = some (.slice none 0 0) := (blk_cell BK156.out 3).trans rfl
       have hcz60_4 : wc.cell? ⟨gb156, 4, none⟩ = some (.slice none 0 0) := (blk_cell BK156.out 4).trans rfl
       have hfz60_0 := blk_frozen BK156.out 0
       have hfz60_1 := blk_frozen BK156.out 1
       have hfz60_2 := blk_frozen BK156.out 2
       have hfz60_3 := blk_frozen BK156.out 3
       have hfz60_4 := blk_frozen BK156.out 4
       go_wp2
       go_meet
       case rel => exact ⟨_, (a1_2), H', ⟨by have := HJ2.out; have := HJ24.out; first | omega | exact Nat.le_refl _⟩, ⟨by (with_reducible repeat (first | refine blk_drewN ?_ _ | refine blk_drew ?_ | refine blk_alloc ?_ _)); refine blk_far ?_ NB151_156.out _; (with_reducible repeat (first | refine blk_drewN ?_ _ | refine blk_drew ?_ | refine blk_alloc ?_ _)); exact BK151.out⟩, ⟨by (with_reducible repeat (first | refine blk_drewN ?_ _ | refine blk_drew ?_ | refine blk_alloc ?_ _)); refine blk_far ?_ NB152_156.out _; (with_reducible repeat (first | refine blk_drewN ?_ _ | refine blk_drew ?_ | refine blk_alloc ?_ _)); exact BK152.out⟩, ⟨by (with_reducible repeat (first | refine blk_drewN ?_ _ | refine blk_drew ?_ | refine blk_alloc ?_ _)); refine blk_far ?_ NB153_156.out _; (with_reducible repeat (first | refine blk_drewN ?_ _ | refine blk_drew ?_ | refine blk_alloc ?_ _)); exact BK153.out⟩, ⟨by (with_reducible repeat (first | refine blk_drewN ?_ _ | refine blk_drew ?_ | refine blk_alloc ?_ _)); refine blk_put (cs := #[.int .i64 (Go.bits .and .i64 a0_0 a1_0), .int .i64 x157001_24, .int .i64 a0_2, .slice none 0 0, .slice none 0 0]) ?_ 2 _ rfl; (with_reducible repeat (first | refine blk_drewN ?_ _ | refine blk_drew ?_ | refine blk_alloc ?_ _)); exact BK156.out⟩, ⟨by repeat (first | (with_reducible first | exact HB.out | apply below_alloc | apply pw_below_drewN | apply below_drew1 | refine below_set ?_ GE151.out | refine below_set ?_ GE152.out | refine below_set ?_ GE153.out | refine below_set ?_ GE156.out) | exact HB.out)⟩⟩
      case rest =>
       clear HC45
       try clear c1
       try clear c2
       try clear p2
       try clear c3
       try clear c4
       try clear c5
       try clear c8
       try clear c10
       try clear c11
       try clear c12
       try clear c14
       try clear c17
       try clear c18
       try clear c21
       try clear c22
       try clear c23
       try clear c26
       try clear c27
       try clear c29
       try clear c30
       try clear c32
       try clear c33
       try clear c34
       try clear c37
       try clear c37b0
       try clear c37b1
       try clear c38
       try clear c39
       try clear c40
       try clear c42
       try clear c43
       try clear c46
       try clear c47
       try clear c48
       try clear c50
       try clear c51
       try clear c53
       try clear c53b0
       try clear c53b1
       try clear c54
       try clear c55
       try clear c56
       try clear c58
       try clear c59
       try clear hcz12_0
       try clear hcz12_1
       try clear hcz12_2
       try clear hcz12_3
       try clear hcz12_4
       try clear hcz15_0
       try clear hcz15_1
       try clear hcz15_2
       try clear hcz15_3
       try clear hcz15_4
       try clear hcz19_0
       try clear hcz19_1
       try clear hcz19_2
       try clear hcz19_3
       try clear hcz19_4
       try clear hcz24_0
       try clear hcz24_1
       try clear hcz24_2
       try clear hcz24_3
       try clear hcz24_4
       try clear hcz28_0
       try clear hcz28_1
       try clear hcz28_2
       try clear hcz28_3
       try clear hcz28_4
       try clear hcz30_0
       try clear hcz30_1
       try clear hcz30_2
       try clear hcz30_3
       try clear hcz30_4
       try clear hcz35_0
       try clear hcz35_1
       try clear hcz35_2
       try clear hcz35_3
       try clear hcz35_4
       try clear hcz36_0
       try clear hcz36_1
       try clear hcz36_2
       try clear hcz36_3
       try clear hcz36_4
       try clear hcz41_0
       try clear hcz41_1
       try clear hcz41_2
       try clear hcz41_3
       try clear hcz41_4
       try clear hcz44_0
       try clear hcz44_1
       try clear hcz44_2
       try clear hcz44_3
       try clear hcz44_4
       try clear hcz49_0
       try clear hcz49_1
       try clear hcz49_2
       try clear hcz49_3
       try clear hcz49_4
       try clear hcz52_0
       try clear hcz52_1
       try clear hcz52_2
       try clear hcz52_3
       try clear hcz52_4
       try clear hcz57_0
       try clear hcz57_1
       try clear hcz57_2
       try clear hcz57_3
       try clear hcz57_4
       try clear hcz60_0
       try clear hcz60_1
       try clear hcz60_2
       try clear hcz60_3
       try clear hcz60_4
       try clear hfz12_0
       try clear hfz12_1
       try clear hfz12_2
       try clear hfz12_3
       try clear hfz12_4
       try clear hfz15_0
       try clear hfz15_1
       try clear hfz15_2
       try clear hfz15_3
       try clear hfz15_4
       try clear hfz19_0
       try clear hfz19_1
       try clear hfz19_2
       try clear hfz19_3
       try clear hfz19_4
       try clear hfz24_0
       try clear hfz24_1
       try clear hfz24_2
       try clear hfz24_3
       try clear hfz24_4
       try clear hfz28_0
       try clear hfz28_1
       try clear hfz28_2
       try clear hfz28_3
       try clear hfz28_4
       try clear hfz30_0
       try clear hfz30_1
       try clear hfz30_2
       try clear hfz30_3
       try clear hfz30_4
       try clear hfz35_0
       try clear hfz35_1
       try clear hfz35_2
       try clear hfz35_3
       try clear hfz35_4
       try clear hfz36_0
       try clear hfz36_1
       try clear hfz36_2
       try clear hfz36_3
       try clear hfz36_4
       try clear hfz41_0
       try clear hfz41_1
       try clear hfz41_2
       try clear hfz41_3
       try clear hfz41_4
       try clear hfz44_0
       try clear hfz44_1
       try clear hfz44_2
       try clear hfz44_3
       try clear hfz44_4
       try clear hfz49_0
       try clear hfz49_1
       try clear hfz49_2
       try clear hfz49_3
       try clear hfz49_4
       try clear hfz52_0
       try clear hfz52_1
       try clear hfz52_2
       try clear hfz52_3
       try clear hfz52_4
       try clear hfz57_0
       try clear hfz57_1
       try clear hfz57_2
       try clear hfz57_3
       try clear hfz57_4
       try clear hfz60_0
       try clear hfz60_1
       try clear hfz60_2
       try clear hfz60_3
       try clear hfz60_4
       try clear p2
       obtain ⟨kq, x157002_44, HA, HJ44, BK151, BK152, BK153, BK156, HB⟩ := hcut
       cases kq with
       | zero => exact absurd HA.out (by simp [spec_Both.j2])
       | succ kj44 =>
        have H := HA.out
        clear HA
        simp only [spec_Both.j2] at H
        by_cases c61 : x157001_24 > x157002_44
        rotate_left
        ·rw [if_neg c61] at H
         have c61b0 : decide (x157002_44 < x157001_24) = false := decide_eq_false c61
         clear c61
         have H' := Aside0.mk H
         clear H
         have hnb69 := NB156_151.out
         have hnc69 := NB151_156.out
         have hnb70 := NB156_152.out
         have hnc70 := NB152_156.out
         have hnb71 := NB156_153.out
         have hnc71 := NB153_156.out
         have hcz72_0 : wc.cell? ⟨gb156, 0, none⟩ = some (.int .i64 (Go.bits .and .i64 a0_0 a1_0)) := (blk_cell BK156.out 0).trans rfl
         have hcz72_1 : wc.cell? ⟨gb156, 1, none⟩ = some (.int .i64 x157001_24) := (blk_cell BK156.out 1).trans rfl
         have hcz72_2 : wc.cell? ⟨gb156, 2, none⟩ = some (.int .i64 x157002_44) := (blk_cell BK156.out 2).trans rfl
         have hcz72_3 : wc.cell? ⟨gb156, 3, none⟩ = some (.slice none 0 0) := (blk_cell BK156.out 3).trans rfl
         have hcz72_4 : wc.cell? ⟨gb156, 4, none⟩ = some (.slice none 0 0) := (blk_cell BK156.out 4).trans rfl
         have hfz72_0 := blk_frozen BK156.out 0
         have hfz72_1 := blk_frozen BK156.out 1
         have hfz72_2 := blk_frozen BK156.out 2
         have hfz72_3 := blk_frozen BK156.out 3
         have hfz72_4 := blk_frozen BK156.out 4
         go_wp2
         go_loopg [6] kj44 (fun kq v6 w' => ∃ (x6_4 : Int) (x157003_4 : List Int) (x157004_4 : List Int) (u157003 : Value) (u157004 : Value), v6 = .int .i64 x6_4 ∧ Aside0 (spec_Both.l0 kq x6_4 a0_0 a0_1 a0_2 l0_3 l0_4 a1_0 a1_1 a1_2 l1_3 l1_4 (Go.bits .and .i64 a0_0 a1_0) x157001_24 x157002_44 x157003_4 x157004_4 = some (r1, r2, r3, r4, r5)) ∧ Aside0 (kq ≤ kj44) ∧ Aside0 (Kd.R (Kd.int .i64) 3 w' w.heap.size (fun k_ => some k_ ≠ (u157004 : Value).ownBlock) u157003 x157003_4) ∧ Aside0 (Kd.R (Kd.int .i64) 3 w' w.heap.size (fun k_ => some k_ ≠ (u157003 : Value).ownBlock) u157004 x157004_4) ∧ Aside0 (w'.heap[gb151]? = some (.cells #[.int .i64 a0_0, .int .i64 a0_1, .int .i64 a0_2, (.slice A0_3 l0_3.length c0_3), (.slice A0_4 l0_4.length c0_4)] 27 (0, 0))) ∧ Aside0 (w'.heap[gb152]? = some (.cells #[.int .i64 a1_0, .int .i64 a1_1, .int .i64 a1_2, (.slice A1_3 l1_3.length c1_3), (.slice A1_4 l1_4.length c1_4)] 27 (0, 0))) ∧ Aside0 (w'.heap[gb153]? = some (.cells #[.int .i64 0, .int .i64 0, .int .i64 0, (.slice none 0 0), (.slice none 0 0)] 27 (0, 0))) ∧ Aside0 (w'.heap[gb156]? = some (.cells #[.int .i64 (Go.bits .and .i64 a0_0 a1_0), .int .i64 x157001_24, .int .i64 x157002_44, u157003, u157004] 27 (0, 0))) ∧ Aside0 (Below w.heap.size w w'))
         case atStart => exact ⟨(x157001_24), (([] : List Int)), (([] : List Int)), (.slice none 0 0), (.slice none 0 0), (by first | rfl | (simp; done) | (simp [*]; done)), H', ⟨Nat.le_refl _⟩, ⟨by first | exact Kd.R_nil _ _ _ _ _ | exact Kd.N_nil _ _ _ _ _ | exact Kd.V_nil _ _ _ _ _ | exact Kd.Q_nil _ _ _ _ _ | exact Kd.S_nil _ _ _ _ _⟩, ⟨by first | exact Kd.R_nil _ _ _ _ _ | exact Kd.N_nil _ _ _ _ _ | exact Kd.V_nil _ _ _ _ _ | exact Kd.Q_nil _ _ _ _ _ | exact Kd.S_nil _ _ _ _ _⟩, ⟨by (with_reducible repeat (first | refine blk_drewN ?_ _ | refine blk_drew ?_ | refine blk_alloc ?_ _)); exact BK151.out⟩, ⟨by (with_reducible repeat (first | refine blk_drewN ?_ _ | refine blk_drew ?_ | refine blk_alloc ?_ _)); exact BK152.out⟩, ⟨by (with_reducible repeat (first | refine blk_drewN ?_ _ | refine blk_drew ?_ | refine blk_alloc ?_ _)); exact BK153.out⟩, ⟨by (with_reducible repeat (first | refine blk_drewN ?_ _ | refine blk_drew ?_ | refine blk_alloc ?_ _)); exact BK156.out⟩, ⟨by repeat (first | (with_reducible first | exact HB.out | apply below_alloc | apply pw_below_drewN | apply below_drew1 | refine below_set ?_ GE151.out | refine below_set ?_ GE152.out | refine below_set ?_ GE153.out | refine below_set ?_ GE156.out) | exact HB.out)⟩⟩
         case round =>
          clear H'
          try clear c1
          try clear c2
          try clear p2
          try clear c3
          try clear c4
          try clear c5
          try clear c6
          try clear c7
          try clear c8
          try clear c10
          try clear c11
          try clear c12
          try clear c14
          try clear c17
          try clear c18
          try clear c21
          try clear c22
          try clear c23
          try clear c26
          try clear c27
          try clear c29
          try clear c30
          try clear c32
          try clear c33
          try clear c34
          try clear c37
          try clear c37b0
          try clear c37b1
          try clear c38
          try clear c39
          try clear c40
          try clear c42
          try clear c43
          try clear c46
          try clear c47
          try clear c48
          try clear c50
          try clear c51
          try clear c53
          try clear c53b0
          try clear c53b1
          try clear c54
          try clear c55
          try clear c56
          try clear c58
          try clear c59
          try clear c61
          try clear c61b0
          try clear c62
          try clear c63
          try clear c64
          try clear c66
          try clear c67
          try clear c69
          try clear c70
          try clear c71
          try clear hcz12_0
          try clear hcz12_1
          try clear hcz12_2
          try clear hcz12_3
          try clear hcz12_4
          try clear hcz15_0
          try clear hcz15_1
          try clear hcz15_2
          try clear hcz15_3
          try clear hcz15_4
          try clear hcz19_0
          try clear hcz19_1
          try clear hcz19_2
          try clear hcz19_3
          try clear hcz19_4
          try clear hcz24_0
          try clear hcz24_1
          try clear hcz24_2
          try clear hcz24_3
          try clear hcz24_4
          try clear hcz28_0
          try clear hcz28_1
          try clear hcz28_2
          try clear hcz28_3
          try clear hcz28_4
          try clear hcz30_0
          try clear hcz30_1
          try clear hcz30_2
          try clear hcz30_3
          try clear hcz30_4
          try clear hcz35_0
          try clear hcz35_1
          try clear hcz35_2
          try clear hcz35_3
          try clear hcz35_4
          try clear hcz36_0
          try clear hcz36_1
          try clear hcz36_2
          try clear hcz36_3
          try clear hcz36_4
          try clear hcz41_0
          try clear hcz41_1
          try clear hcz41_2
          try clear hcz41_3
          try clear hcz41_4
          try clear hcz44_0
          try clear hcz44_1
          try clear hcz44_2
          try clear hcz44_3
          try clear hcz44_4
          try clear hcz49_0
          try clear hcz49_1
          try clear hcz49_2
          try clear hcz49_3
          try clear hcz49_4
          try clear hcz52_0
          try clear hcz52_1
          try clear hcz52_2
          try clear hcz52_3
          try clear hcz52_4
          try clear hcz57_0
          try clear hcz57_1
          try clear hcz57_2
          try clear hcz57_3
          try clear hcz57_4
          try clear hcz60_0
          try clear hcz60_1
          try clear hcz60_2
          try clear hcz60_3
          try clear hcz60_4
          try clear hcz65_0
          try clear hcz65_1
          try clear hcz65_2
          try clear hcz65_3
          try clear hcz65_4
          try clear hcz68_0
          try clear hcz68_1
          try clear hcz68_2
          try clear hcz68_3
          try clear hcz68_4
          try clear hcz72_0
          try clear hcz72_1
          try clear hcz72_2
          try clear hcz72_3
          try clear hcz72_4
          try clear hfz12_0
          try clear hfz12_1
          try clear hfz12_2
          try clear hfz12_3
          try clear hfz12_4
          try clear hfz15_0
          try clear hfz15_1
          try clear hfz15_2
          try clear hfz15_3
          try clear hfz15_4
          try clear hfz19_0
          try clear hfz19_1
          try clear hfz19_2
          try clear hfz19_3
          try clear hfz19_4
          try clear hfz24_0
          try clear hfz24_1
          try clear hfz24_2
          try clear hfz24_3
          try clear hfz24_4
          try clear hfz28_0
          try clear hfz28_1
          try clear hfz28_2
          try clear hfz28_3
          try clear hfz28_4
          try clear hfz30_0
          try clear hfz30_1
          try clear hfz30_2
          try clear hfz30_3
          try clear hfz30_4
          try clear hfz35_0
          try clear hfz35_1
          try clear hfz35_2
          try clear hfz35_3
          try clear hfz35_4
          try clear hfz36_0
          try clear hfz36_1
          try clear hfz36_2
          try clear hfz36_3
          try clear hfz36_4
          try clear hfz41_0
          try clear hfz41_1
          try clear hfz41_2
          try clear hfz41_3
          try clear hfz41_4
          try clear hfz44_0
          try clear hfz44_1
          try clear hfz44_2
          try clear hfz44_3
          try clear hfz44_4
          try clear hfz49_0
          try clear hfz49_1
          try clear hfz49_2
          try clear hfz49_3
          try clear hfz49_4
          try clear hfz52_0
          try clear hfz52_1
          try clear hfz52_2
          try clear hfz52_3
          try clear hfz52_4
          try clear hfz57_0
          try clear hfz57_1
          try clear hfz57_2
          try clear hfz57_3
          try clear hfz57_4
          try clear hfz60_0
          try clear hfz60_1
          try clear hfz60_2
          try clear hfz60_3
          try clear hfz60_4
          try clear hfz65_0
          try clear hfz65_1
          try clear hfz65_2
          try clear hfz65_3
          try clear hfz65_4
          try clear hfz68_0
          try clear hfz68_1
          try clear hfz68_2
          try clear hfz68_3
          try clear hfz68_4
          try clear hfz72_0
          try clear hfz72_1
          try clear hfz72_2
          try clear hfz72_3
          try clear hfz72_4
          try clear p2
          obtain ⟨x6_4, x157003_4, x157004_4, u157003, u157004, rfl, HA, HK4, HO_157003, HO_157004, BK151, BK152, BK153, BK156, HB⟩ := hrel
          cases gk with
          | zero => exact absurd HA.out (by simp [spec_Both.l0])
          | succ k4 =>
           have H := HA.out
           clear HA
           simp only [spec_Both.l0] at H
           by_cases c73 : x6_4 ≤ x157002_44
           rotate_left
           ·rw [if_neg c73] at H
            have c73b0 : decide (x6_4 ≤ x157002_44) = false := decide_eq_false c73
            clear c73
            by_cases c157 : (x157003_4.length : Int) > 20
            rotate_left
            ·rw [if_neg c157] at H
             have c157b0 : decide (20 < (x157003_4.length : Int)) = false := decide_eq_false c157
             have c157b1 : decide (20 < x157003_4.length) = false := decide_eq_false (by omega)
             clear c157
             by_cases c166 : (x157004_4.length : Int) > 20
             rotate_left
             ·rw [if_neg c166] at H
              have c166b0 : decide (20 < (x157004_4.length : Int)) = false := decide_eq_false c166
              have c166b1 : decide (20 < x157004_4.length) = false := decide_eq_false (by omega)
              clear c166
              simp only [Option.some.injEq, Prod.mk.injEq] at H
              obtain ⟨rfl, rfl, rfl, rfl, rfl⟩ := H
              have hnb176 := NB156_151.out
              have hnc176 := NB151_156.out
              have hnb177 := NB156_152.out
              have hnc177 := NB152_156.out
              have hnb178 := NB156_153.out
              have hnc178 := NB153_156.out
              have hcz179_0 : wr.cell? ⟨gb156, 0, none⟩ = some (.int .i64 (Go.bits .and .i64 a0_0 a1_0)) := (blk_cell BK156.out 0).trans rfl
              have hcz179_1 : wr.cell? ⟨gb156, 1, none⟩ = some (.int .i64 x157001_24) := (blk_cell BK156.out 1).trans rfl
              have hcz179_2 : wr.cell? ⟨gb156, 2, none⟩ = some (.int .i64 x157002_44) := (blk_cell BK156.out 2).trans rfl
              have hcz179_3 : wr.cell? ⟨gb156, 3, none⟩ = some (u157003) := (blk_cell BK156.out 3).trans rfl
              have hcz179_4 : wr.cell? ⟨gb156, 4, none⟩ = some (u157004) := (blk_cell BK156.out 4).trans rfl
              have hfz179_0 := blk_frozen BK156.out 0
              have hfz179_1 := blk_frozen BK156.out 1
              have hfz179_2 := blk_frozen BK156.out 2
              have hfz179_3 := blk_frozen BK156.out 3
              have hfz179_4 := blk_frozen BK156.out 4
              obtain ⟨Ao180, co180, eo180⟩ := Kd.R_slice HO_157003.out
              subst eo180
              obtain ⟨Ao181, co181, eo181⟩ := Kd.R_slice HO_157004.out
              subst eo181
              have hnb182 := NB153_151.out
              have hnc182 := NB151_153.out
              have hnb183 := NB153_152.out
              have hnc183 := NB152_153.out
              have hcz184_0 : wr.cell? ⟨gb153, 0, none⟩ = some (.int .i64 0) := (blk_cell BK153.out 0).trans rfl
              have hcz184_1 : wr.cell? ⟨gb153, 1, none⟩ = some (.int .i64 0) := (blk_cell BK153.out 1).trans rfl
              have hcz184_2 : wr.cell? ⟨gb153, 2, none⟩ = some (.int .i64 0) := (blk_cell BK153.out 2).trans rfl
              have hcz184_3 : wr.cell? ⟨gb153, 3, none⟩ = some (.slice none 0 0) := (blk_cell BK153.out 3).trans rfl
              have hcz184_4 : wr.cell? ⟨gb153, 4, none⟩ = some (.slice none 0 0) := (blk_cell BK153.out 4).trans rfl
              have hfz184_0 := blk_frozen BK153.out 0
              have hfz184_1 := blk_frozen BK153.out 1
              have hfz184_2 := blk_frozen BK153.out 2
              have hfz184_3 := blk_frozen BK153.out 3
              have hfz184_4 := blk_frozen BK153.out 4
              go_wp2
              refine bodyPost_ret (results_cell_row rfl _ _ gb153 27 #[.int .i64 (Go.bits .and .i64 a0_0 a1_0), .int .i64 x157001_24, .int .i64 x157002_44, .slice Ao180 x157003_4.length co180, .slice Ao181 x157004_4.length co181] (0, 0) _ rfl (by (with_reducible repeat (first | refine blk_drewN ?_ _ | refine blk_drew ?_ | refine blk_alloc ?_ _)); refine blk_put (cs := #[.int .i64 (Go.bits .and .i64 a0_0 a1_0), .int .i64 x157001_24, .int .i64 x157002_44, .slice Ao180 x157003_4.length co180, .slice none 0 0]) ?_ 4 _ rfl; (with_reducible repeat (first | refine blk_drewN ?_ _ | refine blk_drew ?_ | refine blk_alloc ?_ _)); refine blk_put (cs := #[.int .i64 (Go.bits .and .i64 a0_0 a1_0), .int .i64 x157001_24, .int .i64 x157002_44, .slice none 0 0, .slice none 0 0]) ?_ 3 _ rfl; (with_reducible repeat (first | refine blk_drewN ?_ _ | refine blk_drew ?_ | refine blk_alloc ?_ _)); refine blk_put (cs := #[.int .i64 (Go.bits .and .i64 a0_0 a1_0), .int .i64 x157001_24, .int .i64 0, .slice none 0 0, .slice none 0 0]) ?_ 2 _ rfl; (with_reducible repeat (first | refine blk_drewN ?_ _ | refine blk_drew ?_ | refine blk_alloc ?_ _)); refine blk_put (cs := #[.int .i64 (Go.bits .and .i64 a0_0 a1_0), .int .i64 0, .int .i64 0, .slice none 0 0, .slice none 0 0]) ?_ 1 _ rfl; (with_reducible repeat (first | refine blk_drewN ?_ _ | refine blk_drew ?_ | refine blk_alloc ?_ _)); refine blk_put (cs := #[.int .i64 0, .int .i64 0, .int .i64 0, .slice none 0 0, .slice none 0 0]) ?_ 0 _ rfl; (with_reducible repeat (first | refine blk_drewN ?_ _ | refine blk_drew ?_ | refine blk_alloc ?_ _)); exact BK153.out) Try.underlying27 rfl (by kernel_rfl)) rfl ?_
              exact ⟨_, _, by first | rfl | (simp [errW_none, errW_some] <;> rfl) | (simp [*, errW_none, errW_some] <;> rfl), by (with_reducible repeat (first | apply Kd.R_alloc | apply Kd.R_drewN | apply Kd.R_drew)); exact Kd.R_mono (Kd.R_far (p := ⟨gb153, 4, none⟩) (Kd.R_far (p := ⟨gb153, 3, none⟩) (Kd.R_far (p := ⟨gb153, 2, none⟩) (Kd.R_far (p := ⟨gb153, 1, none⟩) (Kd.R_far (p := ⟨gb153, 0, none⟩) (Kd.R_types HO_157003.out BK153.out (by decide)) (fun _ hk => hk.2) (.int .i64 (Go.bits .and .i64 a0_0 a1_0))) (fun _ hk => hk.2) (.int .i64 x157001_24)) (fun _ hk => hk.2) (.int .i64 x157002_44)) (fun _ hk => hk.2) (.slice Ao180 x157003_4.length co180)) (fun _ hk => hk.2) (.slice Ao181 x157004_4.length co181)) (fun _ hk => hk.1), by (with_reducible repeat (first | apply Kd.R_alloc | apply Kd.R_drewN | apply Kd.R_drew)); exact Kd.R_mono (Kd.R_far (p := ⟨gb153, 4, none⟩) (Kd.R_far (p := ⟨gb153, 3, none⟩) (Kd.R_far (p := ⟨gb153, 2, none⟩) (Kd.R_far (p := ⟨gb153, 1, none⟩) (Kd.R_far (p := ⟨gb153, 0, none⟩) (Kd.R_types HO_157004.out BK153.out (by decide)) (fun _ hk => hk.2) (.int .i64 (Go.bits .and .i64 a0_0 a1_0))) (fun _ hk => hk.2) (.int .i64 x157001_24)) (fun _ hk => hk.2) (.int .i64 x157002_44)) (fun _ hk => hk.2) (.slice Ao180 x157003_4.length co180)) (fun _ hk => hk.2) (.slice Ao181 x157004_4.length co181)) (fun _ hk => hk.1), by repeat (first | (with_reducible first | exact HB.out | apply below_alloc | apply pw_below_drewN | apply below_drew1 | refine below_set ?_ GE151.out | refine below_set ?_ GE152.out | refine below_set ?_ GE153.out | refine below_set ?_ GE156.out) | exact HB.out)⟩

             rw [if_pos c166] at H
             have c166b0 : decide (20 < (x157004_4.length : Int)) = true := decide_eq_true c166
             have c166b1 : decide (20 < x157004_4.length) = true := decide_eq_true (by omega)
             clear c166
             simp only [Option.some.injEq, Prod.mk.injEq] at H
             obtain ⟨rfl, rfl, rfl, rfl, rfl⟩ := H
             have hnb167 := NB156_151.out
             have hnc167 := NB151_156.out
             have hnb168 := NB156_152.out
             have hnc168 := NB152_156.out
             have hnb169 := NB156_153.out
             have hnc169 := NB153_156.out
             have hcz170_0 : wr.cell? ⟨gb156, 0, none⟩ = some (.int .i64 (Go.bits .and .i64 a0_0 a1_0)) := (blk_cell BK156.out 0).trans rfl
             have hcz170_1 : wr.cell? ⟨gb156, 1, none⟩ = some (.int .i64 x157001_24) := (blk_cell BK156.out 1).trans rfl
             have hcz170_2 : wr.cell? ⟨gb156, 2, none⟩ = some (.int .i64 x157002_44) := (blk_cell BK156.out 2).trans rfl
             have hcz170_3 : wr.cell? ⟨gb156, 3, none⟩ = some (u157003) := (blk_cell BK156.out 3).trans rfl
             have hcz170_4 : wr.cell? ⟨gb156, 4, none⟩ = some (u157004) := (blk_cell BK156.out 4).trans rfl
             have hfz170_0 := blk_frozen BK156.out 0
             have hfz170_1 := blk_frozen BK156.out 1
             have hfz170_2 := blk_frozen BK156.out 2
             have hfz170_3 := blk_frozen BK156.out 3
             have hfz170_4 := blk_frozen BK156.out 4
             obtain ⟨Ao171, co171, eo171⟩ := Kd.R_slice HO_157003.out
             subst eo171
             obtain ⟨Ao172, co172, eo172⟩ := Kd.R_slice HO_157004.out
             subst eo172
             have hnb173 := NB153_151.out
             have hnc173 := NB151_153.out
             have hnb174 := NB153_152.out
             have hnc174 := NB152_153.out
             have hcz175_0 : wr.cell? ⟨gb153, 0, none⟩ = some (.int .i64 0) := (blk_cell BK153.out 0).trans rfl
             have hcz175_1 : wr.cell? ⟨gb153, 1, none⟩ = some (.int .i64 0) := (blk_cell BK153.out 1).trans rfl
             have hcz175_2 : wr.cell? ⟨gb153, 2, none⟩ = some (.int .i64 0) := (blk_cell BK153.out 2).trans rfl
             have hcz175_3 : wr.cell? ⟨gb153, 3, none⟩ = some (.slice none 0 0) := (blk_cell BK153.out 3).trans rfl
             have hcz175_4 : wr.cell? ⟨gb153, 4, none⟩ = some (.slice none 0 0) := (blk_cell BK153.out 4).trans rfl
             have hfz175_0 := blk_frozen BK153.out 0
             have hfz175_1 := blk_frozen BK153.out 1
             have hfz175_2 := blk_frozen BK153.out 2
             have hfz175_3 := blk_frozen BK153.out 3
             have hfz175_4 := blk_frozen BK153.out 4
             go_wp2
             refine bodyPost_ret (results_cell_row rfl _ _ gb153 27 #[.int .i64 0, .int .i64 0, .int .i64 0, .slice none 0 0, .slice none 0 0] (0, 0) _ rfl (by (with_reducible repeat (first | refine blk_drewN ?_ _ | refine blk_drew ?_ | refine blk_alloc ?_ _)); refine blk_put (cs := #[.int .i64 0, .int .i64 0, .int .i64 0, .slice none 0 0, .slice none 0 0]) ?_ 4 _ rfl; (with_reducible repeat (first | refine blk_drewN ?_ _ | refine blk_drew ?_ | refine blk_alloc ?_ _)); refine blk_put (cs := #[.int .i64 0, .int .i64 0, .int .i64 0, .slice none 0 0, .slice none 0 0]) ?_ 3 _ rfl; (with_reducible repeat (first | refine blk_drewN ?_ _ | refine blk_drew ?_ | refine blk_alloc ?_ _)); refine blk_put (cs := #[.int .i64 0, .int .i64 0, .int .i64 0, .slice none 0 0, .slice none 0 0]) ?_ 2 _ rfl; (with_reducible repeat (first | refine blk_drewN ?_ _ | refine blk_drew ?_ | refine blk_alloc ?_ _)); refine blk_put (cs := #[.int .i64 0, .int .i64 0, .int .i64 0, .slice none 0 0, .slice none 0 0]) ?_ 1 _ rfl; (with_reducible repeat (first | refine blk_drewN ?_ _ | refine blk_drew ?_ | refine blk_alloc ?_ _)); refine blk_put (cs := #[.int .i64 0, .int .i64 0, .int .i64 0, .slice none 0 0, .slice none 0 0]) ?_ 0 _ rfl; (with_reducible repeat (first | refine blk_drewN ?_ _ | refine blk_drew ?_ | refine blk_alloc ?_ _)); exact BK153.out) Try.underlying27 rfl (by kernel_rfl)) rfl ?_
             exact ⟨_, _, by first | rfl | (simp [errW_none, errW_some] <;> rfl) | (simp [*, errW_none, errW_some] <;> rfl), by first | exact Kd.R_nil _ _ _ _ _ | exact Kd.N_nil _ _ _ _ _ | exact Kd.V_nil _ _ _ _ _ | exact Kd.Q_nil _ _ _ _ _ | exact Kd.S_nil _ _ _ _ _, by first | exact Kd.R_nil _ _ _ _ _ | exact Kd.N_nil _ _ _ _ _ | exact Kd.V_nil _ _ _ _ _ | exact Kd.Q_nil _ _ _ _ _ | exact Kd.S_nil _ _ _ _ _, by repeat (first | (with_reducible first | exact HB.out | apply below_alloc | apply pw_below_drewN | apply below_drew1 | refine below_set ?_ GE151.out | refine below_set ?_ GE152.out | refine below_set ?_ GE153.out | refine below_set ?_ GE156.out) | exact HB.out)⟩
            rw [if_pos c157] at H
            have c157b0 : decide (20 < (x157003_4.length : Int)) = true := decide_eq_true c157
            have c157b1 : decide (20 < x157003_4.length) = true := decide_eq_true (by omega)
            clear c157
            simp only [Option.some.injEq, Prod.mk.injEq] at H
            obtain ⟨rfl, rfl, rfl, rfl, rfl⟩ := H
            have hnb158 := NB156_151.out
            have hnc158 := NB151_156.out
            have hnb159 := NB156_152.out
            have hnc159 := NB152_156.out
            have hnb160 := NB156_153.out
            have hnc160 := NB153_156.out
            have hcz161_0 : wr.cell? ⟨gb156, 0, none⟩ = some (.int .i64 (Go.bits .and .i64 a0_0 a1_0)) := (blk_cell BK156.out 0).trans rfl
            have hcz161_1 : wr.cell? ⟨gb156, 1, none⟩ = some (.int .i64 x157001_24) := (blk_cell BK156.out 1).trans rfl
            have hcz161_2 : wr.cell? ⟨gb156, 2, none⟩ = some (.int .i64 x157002_44) := (blk_cell BK156.out 2).trans rfl
            have hcz161_3 : wr.cell? ⟨gb156, 3, none⟩ = some (u157003) := (blk_cell BK156.out 3).trans rfl
            have hcz161_4 : wr.cell? ⟨gb156, 4, none⟩ = some (u157004) := (blk_cell BK156.out 4).trans rfl
            have hfz161_0 := blk_frozen BK156.out 0
            have hfz161_1 := blk_frozen BK156.out 1
            have hfz161_2 := blk_frozen BK156.out 2
            have hfz161_3 := blk_frozen BK156.out 3
            have hfz161_4 := blk_frozen BK156.out 4
            obtain ⟨Ao162, co162, eo162⟩ := Kd.R_slice HO_157003.out
            subst eo162
            have hnb163 := NB153_151.out
            have hnc163 := NB151_153.out
            have hnb164 := NB153_152.out
            have hnc164 := NB152_153.out
            have hcz165_0 : wr.cell? ⟨gb153, 0, none⟩ = some (.int .i64 0) := (blk_cell BK153.out 0).trans rfl
            have hcz165_1 : wr.cell? ⟨gb153, 1, none⟩ = some (.int .i64 0) := (blk_cell BK153.out 1).trans rfl
            have hcz165_2 : wr.cell? ⟨gb153, 2, none⟩ = some (.int .i64 0) := (blk_cell BK153.out 2).trans rfl
            have hcz165_3 : wr.cell? ⟨gb153, 3, none⟩ = some (.slice none 0 0) := (blk_cell BK153.out 3).trans rfl
            have hcz165_4 : wr.cell? ⟨gb153, 4, none⟩ = some (.slice none 0 0) := (blk_cell BK153.out 4).trans rfl
            have hfz165_0 := blk_frozen BK153.out 0
            have hfz165_1 := blk_frozen BK153.out 1
            have hfz165_2 := blk_frozen BK153.out 2
            have hfz165_3 := blk_frozen BK153.out 3
            have hfz165_4 := blk_frozen BK153.out 4
            go_wp2
            refine bodyPost_ret (results_cell_row rfl _ _ gb153 27 #[.int .i64 0, .int .i64 0, .int .i64 0, .slice none 0 0, .slice none 0 0] (0, 0) _ rfl (by (with_reducible repeat (first | refine blk_drewN ?_ _ | refine blk_drew ?_ | refine blk_alloc ?_ _)); refine blk_put (cs := #[.int .i64 0, .int .i64 0, .int .i64 0, .slice none 0 0, .slice none 0 0]) ?_ 4 _ rfl; (with_reducible repeat (first | refine blk_drewN ?_ _ | refine blk_drew ?_ | refine blk_alloc ?_ _)); refine blk_put (cs := #[.int .i64 0, .int .i64 0, .int .i64 0, .slice none 0 0, .slice none 0 0]) ?_ 3 _ rfl; (with_reducible repeat (first | refine blk_drewN ?_ _ | refine blk_drew ?_ | refine blk_alloc ?_ _)); refine blk_put (cs := #[.int .i64 0, .int .i64 0, .int .i64 0, .slice none 0 0, .slice none 0 0]) ?_ 2 _ rfl; (with_reducible repeat (first | refine blk_drewN ?_ _ | refine blk_drew ?_ | refine blk_alloc ?_ _)); refine blk_put (cs := #[.int .i64 0, .int .i64 0, .int .i64 0, .slice none 0 0, .slice none 0 0]) ?_ 1 _ rfl; (with_reducible repeat (first | refine blk_drewN ?_ _ | refine blk_drew ?_ | refine blk_alloc ?_ _)); refine blk_put (cs := #[.int .i64 0, .int .i64 0, .int .i64 0, .slice none 0 0, .slice none 0 0]) ?_ 0 _ rfl; (with_reducible repeat (first | refine blk_drewN ?_ _ | refine blk_drew ?_ | refine blk_alloc ?_ _)); exact BK153.out) Try.underlying27 rfl (by kernel_rfl)) rfl ?_
            exact ⟨_, _, by first | rfl | (simp [errW_none, errW_some] <;> rfl) | (simp [*, errW_none, errW_some] <;> rfl), by first | exact Kd.R_nil _ _ _ _ _ | exact Kd.N_nil _ _ _ _ _ | exact Kd.V_nil _ _ _ _ _ | exact Kd.Q_nil _ _ _ _ _ | exact Kd.S_nil _ _ _ _ _, by first | exact Kd.R_nil _ _ _ _ _ | exact Kd.N_nil _ _ _ _ _ | exact Kd.V_nil _ _ _ _ _ | exact Kd.Q_nil _ _ _ _ _ | exact Kd.S_nil _ _ _ _ _, by repeat (first | (with_reducible first | exact HB.out | apply below_alloc | apply pw_below_drewN | apply below_drew1 | refine below_set ?_ GE151.out | refine below_set ?_ GE152.out | refine below_set ?_ GE153.out | refine below_set ?_ GE156.out) | exact HB.out)⟩
           rw [if_pos c73] at H
           have c73b0 : decide (x6_4 ≤ x157002_44) = true := decide_eq_true c73
           clear c73
           have HC74 := Aside0.mk H
           clear H
           have hnb75 := NB156_151.out
           have hnc75 := NB151_156.out
           have hnb76 := NB156_152.out
           have hnc76 := NB152_156.out
           have hnb77 := NB156_153.out
           have hnc77 := NB153_156.out
           have hcz78_0 : wr.cell? ⟨gb156, 0, none⟩ = some (.int .i64 (Go.bits .and .i64 a0_0 a1_0)) := (blk_cell BK156.out 0).trans rfl
           have hcz78_1 : wr.cell? ⟨gb156, 1, none⟩ = some (.int .i64 x157001_24) := (blk_cell BK156.out 1).trans rfl
           have hcz78_2 : wr.cell? ⟨gb156, 2, none⟩ = some (.int .i64 x157002_44) := (blk_cell BK156.out 2).trans rfl
           have hcz78_3 : wr.cell? ⟨gb156, 3, none⟩ = some (u157003) := (blk_cell BK156.out 3).trans rfl
           have hcz78_4 : wr.cell? ⟨gb156, 4, none⟩ = some (u157004) := (blk_cell BK156.out 4).trans rfl
           have hfz78_0 := blk_frozen BK156.out 0
           have hfz78_1 := blk_frozen BK156.out 1
           have hfz78_2 := blk_frozen BK156.out 2
           have hfz78_3 := blk_frozen BK156.out 3
           have hfz78_4 := blk_frozen BK156.out 4
           go_upto_region 13 with (fail)
           go_cut [7] (fun v7 wc => ∃ (kq : Nat) (x7_73 : Bool), v7 = .bool x7_73 ∧ Aside0 (spec_Both.j4 kq x6_4 x7_73 a0_0 a0_1 a0_2 l0_3 l0_4 a1_0 a1_1 a1_2 l1_3 l1_4 (Go.bits .and .i64 a0_0 a1_0) x157001_24 x157002_44 x157003_4 x157004_4 = some (r1, r2, r3, r4, r5)) ∧ Aside0 (kq ≤ k4) ∧ Aside0 (Kd.R (Kd.int .i64) 3 wc w.heap.size (fun k_ => some k_ ≠ (u157004 : Value).ownBlock) u157003 x157003_4) ∧ Aside0 (Kd.R (Kd.int .i64) 3 wc w.heap.size (fun k_ => some k_ ≠ (u157003 : Value).ownBlock) u157004 x157004_4) ∧ Aside0 (wc.heap[gb151]? = some (.cells #[.int .i64 a0_0, .int .i64 a0_1, .int .i64 a0_2, (.slice A0_3 l0_3.length c0_3), (.slice A0_4 l0_4.length c0_4)] 27 (0, 0))) ∧ Aside0 (wc.heap[gb152]? = some (.cells #[.int .i64 a1_0, .int .i64 a1_1, .int .i64 a1_2, (.slice A1_3 l1_3.length c1_3), (.slice A1_4 l1_4.length c1_4)] 27 (0, 0))) ∧ Aside0 (wc.heap[gb153]? = some (.cells #[.int .i64 0, .int .i64 0, .int .i64 0, (.slice none 0 0), (.slice none 0 0)] 27 (0, 0))) ∧ Aside0 (wc.heap[gb156]? = some (.cells #[.int .i64 (Go.bits .and .i64 a0_0 a1_0), .int .i64 x157001_24, .int .i64 x157002_44, u157003, u157004] 27 (0, 0))) ∧ Aside0 (Below w.heap.size w wc))
           case first =>
            have H := HC74.out
            clear HC74
            replace H := Option.bind_eq_some_iff.mp H
            obtain ⟨t157, A790, H⟩ := H
            try dsimp only at H
            have A79 := Aside0.mk A790
            clear A790
            by_cases c80 : t157 = true
            rotate_left
            ·replace c80 := Bool.eq_false_iff.mpr c80
             subst c80
             have H1 : (spec_Both.j4 k4 x6_4 false a0_0 a0_1 a0_2 l0_3 l0_4 a1_0 a1_1 a1_2 l1_3 l1_4 (Go.bits .and .i64 a0_0 a1_0) x157001_24 x157002_44 x157003_4 x157004_4) = some (r1, r2, r3, r4, r5) := by (first | (rw [if_neg (show ¬ (false = true) by decide)] at H; exact H) | rfl)
             clear H
             have H := H1
             clear H1
             have H' := Aside0.mk H
             clear H
             have hnb91 := NB151_152.out
             have hnc91 := NB152_151.out
             have hnb92 := NB151_153.out
             have hnc92 := NB153_151.out
             have hnb93 := NB151_156.out
             have hnc93 := NB156_151.out
             have hcz94_0 : wr.cell? ⟨gb151, 0, none⟩ = some (.int .i64 a0_0) := (blk_cell BK151.out 0).trans rfl
             have hcz94_1 : wr.cell? ⟨gb151, 1, none⟩ = some (.int .i64 a0_1) := (blk_cell BK151.out 1).trans rfl
             have hcz94_2 : wr.cell? ⟨gb151, 2, none⟩ = some (.int .i64 a0_2) := (blk_cell BK151.out 2).trans rfl
             have hcz94_3 : wr.cell? ⟨gb151, 3, none⟩ = some (.slice A0_3 l0_3.length c0_3) := (blk_cell BK151.out 3).trans rfl
             have hcz94_4 : wr.cell? ⟨gb151, 4, none⟩ = some (.slice A0_4 l0_4.length c0_4) := (blk_cell BK151.out 4).trans rfl
             have hfz94_0 := blk_frozen BK151.out 0
             have hfz94_1 := blk_frozen BK151.out 1
             have hfz94_2 := blk_frozen BK151.out 2
             have hfz94_3 := blk_frozen BK151.out 3
             have hfz94_4 := blk_frozen BK151.out 4
             go_wp2_with (first | ((with_reducible refine gate_callee (f := 43) rfl ?_); refine goesL_ (some 59) rfl rfl Try.func43 (by kernel_rfl) rfl #[.agg #[.int .i64 a0_0, .int .i64 a0_1, .int .i64 a0_2, .slice A0_3 l0_3.length c0_3, .slice A0_4 l0_4.length c0_4], .int .i64 x6_4] rfl (by (try simp only [List.map_toArray, List.map_cons, List.map_nil]); first | done | rfl) ?_; (with_reducible refine (spec_l01On.calls k4 a0_0 a0_1 a0_2 _ _ l0_3 _ _ l0_4 x6_4 false _ ?side1 ?side2 ?side3 ?side4 A79.out).mono ?_); (case side1 => exact (Kd.C_below HR0_3.out HB.out)); (case side2 => exact HC0_3.out); (case side3 => exact (Kd.C_below HR0_4.out HB.out)); (case side4 => exact HC0_4.out); rintro e w95 ⟨rfl, hb⟩; refine ⟨_, rfl, ?_⟩; replace HO_157003 := Aside0.mk (Kd.R_below HO_157003.out hb); replace HO_157004 := Aside0.mk (Kd.R_below HO_157004.out hb); replace BK151 := Aside0.mk (blk_below BK151.out hb); replace BK152 := Aside0.mk (blk_below BK152.out hb); replace BK153 := Aside0.mk (blk_below BK153.out hb); replace BK156 := Aside0.mk (blk_below BK156.out hb); replace HB := Aside0.mk (below_step HB.out hb); (try clear hb); (try clear hb2); (try clear hk); (try clear hi)))
             go_meet
             case rel => exact ⟨_, (false), (by first | rfl | (simp; done) | (simp [*]; done)), H', ⟨by have := HJ2.out; have := HJ24.out; have := HJ44.out; have := HK4.out; first | omega | exact Nat.le_refl _⟩, ⟨by (with_reducible repeat (first | apply Kd.R_alloc | apply Kd.R_drewN | apply Kd.R_drew)); exact HO_157003.out⟩, ⟨by (with_reducible repeat (first | apply Kd.R_alloc | apply Kd.R_drewN | apply Kd.R_drew)); exact HO_157004.out⟩, ⟨by (with_reducible repeat (first | refine blk_drewN ?_ _ | refine blk_drew ?_ | refine blk_alloc ?_ _)); exact BK151.out⟩, ⟨by (with_reducible repeat (first | refine blk_drewN ?_ _ | refine blk_drew ?_ | refine blk_alloc ?_ _)); exact BK152.out⟩, ⟨by (with_reducible repeat (first | refine blk_drewN ?_ _ | refine blk_drew ?_ | refine blk_alloc ?_ _)); exact BK153.out⟩, ⟨by (with_reducible repeat (first | refine blk_drewN ?_ _ | refine blk_drew ?_ | refine blk_alloc ?_ _)); exact BK156.out⟩, ⟨by repeat (first | (with_reducible first | exact HB.out | apply below_alloc | apply pw_below_drewN | apply below_drew1 | refine below_set ?_ GE151.out | refine below_set ?_ GE152.out | refine below_set ?_ GE153.out | refine below_set ?_ GE156.out) | exact HB.out)⟩⟩
            subst c80
            rw [if_pos rfl] at H
            replace H := Option.bind_eq_some_iff.mp H
            obtain ⟨t158, A810, H⟩ := H
            try dsimp only at H
            have A81 := Aside0.mk A810
            clear A810
            have H' := Aside0.mk H
            clear H
            have hnb82 := NB151_152.out
            have hnc82 := NB152_151.out
            have hnb83 := NB151_153.out
            have hnc83 := NB153_151.out
            have hnb84 := NB151_156.out
            have hnc84 := NB156_151.out
            have hcz85_0 : wr.cell? ⟨gb151, 0, none⟩ = some (.int .i64 a0_0) := (blk_cell BK151.out 0).trans rfl
            have hcz85_1 : wr.cell? ⟨gb151, 1, none⟩ = some (.int .i64 a0_1) := (blk_cell BK151.out 1).trans rfl
            have hcz85_2 : wr.cell? ⟨gb151, 2, none⟩ = some (.int .i64 a0_2) := (blk_cell BK151.out 2).trans rfl
            have hcz85_3 : wr.cell? ⟨gb151, 3, none⟩ = some (.slice A0_3 l0_3.length c0_3) := (blk_cell BK151.out 3).trans rfl
            have hcz85_4 : wr.cell? ⟨gb151, 4, none⟩ = some (.slice A0_4 l0_4.length c0_4) := (blk_cell BK151.out 4).trans rfl
            have hfz85_0 := blk_frozen BK151.out 0
            have hfz85_1 := blk_frozen BK151.out 1
            have hfz85_2 := blk_frozen BK151.out 2
            have hfz85_3 := blk_frozen BK151.out 3
            have hfz85_4 := blk_frozen BK151.out 4
            go_wp2_with (first | ((with_reducible refine gate_callee (f := 43) rfl ?_); refine goesL_ (some 59) rfl rfl Try.func43 (by kernel_rfl) rfl #[.agg #[.int .i64 a0_0, .int .i64 a0_1, .int .i64 a0_2, .slice A0_3 l0_3.length c0_3, .slice A0_4 l0_4.length c0_4], .int .i64 x6_4] rfl (by (try simp only [List.map_toArray, List.map_cons, List.map_nil]); first | done | rfl) ?_; (with_reducible refine (spec_l01On.calls k4 a0_0 a0_1 a0_2 _ _ l0_3 _ _ l0_4 x6_4 true _ ?side1 ?side2 ?side3 ?side4 A79.out).mono ?_); (case side1 => exact (Kd.C_below HR0_3.out HB.out)); (case side2 => exact HC0_3.out); (case side3 => exact (Kd.C_below HR0_4.out HB.out)); (case side4 => exact HC0_4.out); rintro e w86 ⟨rfl, hb⟩; refine ⟨_, rfl, ?_⟩; replace HO_157003 := Aside0.mk (Kd.R_below HO_157003.out hb); replace HO_157004 := Aside0.mk (Kd.R_below HO_157004.out hb); replace BK151 := Aside0.mk (blk_below BK151.out hb); replace BK152 := Aside0.mk (blk_below BK152.out hb); replace BK153 := Aside0.mk (blk_below BK153.out hb); replace BK156 := Aside0.mk (blk_below BK156.out hb); replace HB := Aside0.mk (below_step HB.out hb); (try clear hb); (try clear hb2); (try clear hk); (try clear hi); have hnb87 := NB152_153.out; have hnc87 := NB153_152.out; have hnb88 := NB152_156.out; have hnc88 := NB156_152.out; have hcz89_0 : w86.cell? ⟨gb152, 0, none⟩ = some (.int .i64 a1_0) := (blk_cell BK152.out 0).trans rfl; have hcz89_1 : w86.cell? ⟨gb152, 1, none⟩ = some (.int .i64 a1_1) := (blk_cell BK152.out 1).trans rfl; have hcz89_2 : w86.cell? ⟨gb152, 2, none⟩ = some (.int .i64 a1_2) := (blk_cell BK152.out 2).trans rfl; have hcz89_3 : w86.cell? ⟨gb152, 3, none⟩ = some (.slice A1_3 l1_3.length c1_3) := (blk_cell BK152.out 3).trans rfl; have hcz89_4 : w86.cell? ⟨gb152, 4, none⟩ = some (.slice A1_4 l1_4.length c1_4) := (blk_cell BK152.out 4).trans rfl; have hfz89_0 := blk_frozen BK152.out 0; have hfz89_1 := blk_frozen BK152.out 1; have hfz89_2 := blk_frozen BK152.out 2; have hfz89_3 := blk_frozen BK152.out 3; have hfz89_4 := blk_frozen BK152.out 4) | (go_at_call 43; (with_reducible refine (spec_l01On.calls k4 a1_0 a1_1 a1_2 _ _ l1_3 _ _ l1_4 x6_4 t158 _ ?side1 ?side2 ?side3 ?side4 A81.out).mono ?_); (case side1 => exact (Kd.C_below HR1_3.out HB.out)); (case side2 => exact HC1_3.out); (case side3 => exact (Kd.C_below HR1_4.out HB.out)); (case side4 => exact HC1_4.out); rintro e w90 ⟨rfl, hb⟩; replace HO_157003 := Aside0.mk (Kd.R_below HO_157003.out hb); replace HO_157004 := Aside0.mk (Kd.R_below HO_157004.out hb); replace BK151 := Aside0.mk (blk_below BK151.out hb); replace BK152 := Aside0.mk (blk_below BK152.out hb); replace BK153 := Aside0.mk (blk_below BK153.out hb); replace BK156 := Aside0.mk (blk_below BK156.out hb); replace HB := Aside0.mk (below_step HB.out hb); (try clear hb); (try clear hb2); (try clear hk); (try clear hi)))
            go_meet
            case rel => exact ⟨_, (t158), (by first | rfl | (simp; done) | (simp [*]; done)), H', ⟨by have := HJ2.out; have := HJ24.out; have := HJ44.out; have := HK4.out; first | omega | exact Nat.le_refl _⟩, ⟨by (with_reducible repeat (first | apply Kd.R_alloc | apply Kd.R_drewN | apply Kd.R_drew)); exact HO_157003.out⟩, ⟨by (with_reducible repeat (first | apply Kd.R_alloc | apply Kd.R_drewN | apply Kd.R_drew)); exact HO_157004.out⟩, ⟨by (with_reducible repeat (first | refine blk_drewN ?_ _ | refine blk_drew ?_ | refine blk_alloc ?_ _)); exact BK151.out⟩, ⟨by (with_reducible repeat (first | refine blk_drewN ?_ _ | refine blk_drew ?_ | refine blk_alloc ?_ _)); exact BK152.out⟩, ⟨by (with_reducible repeat (first | refine blk_drewN ?_ _ | refine blk_drew ?_ | refine blk_alloc ?_ _)); exact BK153.out⟩, ⟨by (with_reducible repeat (first | refine blk_drewN ?_ _ | refine blk_drew ?_ | refine blk_alloc ?_ _)); exact BK156.out⟩, ⟨by repeat (first | (with_reducible first | exact HB.out | apply below_alloc | apply pw_below_drewN | apply below_drew1 | refine below_set ?_ GE151.out | refine below_set ?_ GE152.out | refine below_set ?_ GE153.out | refine below_set ?_ GE156.out) | exact HB.out)⟩⟩
           case rest =>
            clear HC74
            try clear c1
            try clear c2
            try clear p2
            try clear c3
            try clear c4
            try clear c5
            try clear c6
            try clear c7
            try clear c8
            try clear c9
            try clear c10
            try clear c11
            try clear c12
            try clear c14
            try clear c17
            try clear c18
            try clear c21
            try clear c22
            try clear c23
            try clear c26
            try clear c27
            try clear c29
            try clear c30
            try clear c32
            try clear c33
            try clear c34
            try clear c37
            try clear c37b0
            try clear c37b1
            try clear c38
            try clear c39
            try clear c40
            try clear c42
            try clear c43
            try clear c46
            try clear c47
            try clear c48
            try clear c50
            try clear c51
            try clear c53
            try clear c53b0
            try clear c53b1
            try clear c54
            try clear c55
            try clear c56
            try clear c58
            try clear c59
            try clear c61
            try clear c61b0
            try clear c62
            try clear c63
            try clear c64
            try clear c66
            try clear c67
            try clear c69
            try clear c70
            try clear c71
            try clear c73
            try clear c73b0
            try clear c75
            try clear c76
            try clear c77
            try clear c80
            try clear c82
            try clear c83
            try clear c84
            try clear c87
            try clear c88
            try clear c91
            try clear c92
            try clear c93
            try clear hcz12_0
            try clear hcz12_1
            try clear hcz12_2
            try clear hcz12_3
            try clear hcz12_4
            try clear hcz15_0
            try clear hcz15_1
            try clear hcz15_2
            try clear hcz15_3
            try clear hcz15_4
            try clear hcz19_0
            try clear hcz19_1
            try clear hcz19_2
            try clear hcz19_3
            try clear hcz19_4
            try clear hcz24_0
            try clear hcz24_1
            try clear hcz24_2
            try clear hcz24_3
            try clear hcz24_4
            try clear hcz28_0
            try clear hcz28_1
            try clear hcz28_2
            try clear hcz28_3
            try clear hcz28_4
            try clear hcz30_0
            try clear hcz30_1
            try clear hcz30_2
            try clear hcz30_3
            try clear hcz30_4
            try clear hcz35_0
            try clear hcz35_1
            try clear hcz35_2
            try clear hcz35_3
            try clear hcz35_4
            try clear hcz36_0
            try clear hcz36_1
            try clear hcz36_2
            try clear hcz36_3
            try clear hcz36_4
            try clear hcz41_0
            try clear hcz41_1
            try clear hcz41_2
            try clear hcz41_3
            try clear hcz41_4
            try clear hcz44_0
            try clear hcz44_1
            try clear hcz44_2
            try clear hcz44_3
            try clear hcz44_4
            try clear hcz49_0
            try clear hcz49_1
            try clear hcz49_2
            try clear hcz49_3
            try clear hcz49_4
            try clear hcz52_0
            try clear hcz52_1
            try clear hcz52_2
            try clear hcz52_3
            try clear hcz52_4
            try clear hcz57_0
            try clear hcz57_1
            try clear hcz57_2
            try clear hcz57_3
            try clear hcz57_4
            try clear hcz60_0
            try clear hcz60_1
            try clear hcz60_2
            try clear hcz60_3
            try clear hcz60_4
            try clear hcz65_0
            try clear hcz65_1
            try clear hcz65_2
            try clear hcz65_3
            try clear hcz65_4
            try clear hcz68_0
            try clear hcz68_1
            try clear hcz68_2
            try clear hcz68_3
            try clear hcz68_4
            try clear hcz72_0
            try clear hcz72_1
            try clear hcz72_2
            try clear hcz72_3
            try clear hcz72_4
            try clear hcz78_0
            try clear hcz78_1
            try clear hcz78_2
            try clear hcz78_3
            try clear hcz78_4
            try clear hcz85_0
            try clear hcz85_1
            try clear hcz85_2
            try clear hcz85_3
            try clear hcz85_4
            try clear hcz89_0
            try clear hcz89_1
            try clear hcz89_2
            try clear hcz89_3
            try clear hcz89_4
            try clear hcz94_0
            try clear hcz94_1
            try clear hcz94_2
            try clear hcz94_3
            try clear hcz94_4
            try clear hfz12_0
            try clear hfz12_1
            try clear hfz12_2
            try clear hfz12_3
            try clear hfz12_4
            try clear hfz15_0
            try clear hfz15_1
            try clear hfz15_2
            try clear hfz15_3
            try clear hfz15_4
            try clear hfz19_0
            try clear hfz19_1
            try clear hfz19_2
            try clear hfz19_3
            try clear hfz19_4
            try clear hfz24_0
            try clear hfz24_1
            try clear hfz24_2
            try clear hfz24_3
            try clear hfz24_4
            try clear hfz28_0
            try clear hfz28_1
            try clear hfz28_2
            try clear hfz28_3
            try clear hfz28_4
            try clear hfz30_0
            try clear hfz30_1
            try clear hfz30_2
            try clear hfz30_3
            try clear hfz30_4
            try clear hfz35_0
            try clear hfz35_1
            try clear hfz35_2
            try clear hfz35_3
            try clear hfz35_4
            try clear hfz36_0
            try clear hfz36_1
            try clear hfz36_2
            try clear hfz36_3
            try clear hfz36_4
            try clear hfz41_0
            try clear hfz41_1
            try clear hfz41_2
            try clear hfz41_3
            try clear hfz41_4
            try clear hfz44_0
            try clear hfz44_1
            try clear hfz44_2
            try clear hfz44_3
            try clear hfz44_4
            try clear hfz49_0
            try clear hfz49_1
            try clear hfz49_2
            try clear hfz49_3
            try clear hfz49_4
            try clear hfz52_0
            try clear hfz52_1
            try clear hfz52_2
            try clear hfz52_3
            try clear hfz52_4
            try clear hfz57_0
            try clear hfz57_1
            try clear hfz57_2
            try clear hfz57_3
            try clear hfz57_4
            try clear hfz60_0
            try clear hfz60_1
            try clear hfz60_2
            try clear hfz60_3
            try clear hfz60_4
            try clear hfz65_0
            try clear hfz65_1
            try clear hfz65_2
            try clear hfz65_3
            try clear hfz65_4
            try clear hfz68_0
            try clear hfz68_1
            try clear hfz68_2
            try clear hfz68_3
            try clear hfz68_4
            try clear hfz72_0
            try clear hfz72_1
            try clear hfz72_2
            try clear hfz72_3
            try clear hfz72_4
            try clear hfz78_0
            try clear hfz78_1
            try clear hfz78_2
            try clear hfz78_3
            try clear hfz78_4
            try clear hfz85_0
            try clear hfz85_1
            try clear hfz85_2
            try clear hfz85_3
            try clear hfz85_4
            try clear hfz89_0
            try clear hfz89_1
            try clear hfz89_2
            try clear hfz89_3
            try clear hfz89_4
            try clear hfz94_0
            try clear hfz94_1
            try clear hfz94_2
            try clear hfz94_3
            try clear hfz94_4
            try clear p2
            obtain ⟨kq, x7_73, rfl, HA, HJ73, HO_157003, HO_157004, BK151, BK152, BK153, BK156, HB⟩ := hcut
            cases kq with
            | zero => exact absurd HA.out (by simp [spec_Both.j4])
            | succ kj73 =>
             have H := HA.out
             clear HA
             simp only [spec_Both.j4] at H
             have HC96 := Aside0.mk H
             clear H
             go_upto_region 14 with (fail)
             go_cut [72] (fun v72 wc => ∃ (kq : Nat) (x72_95 : Bool), v72 = .bool x72_95 ∧ Aside0 (spec_Both.j5 kq x6_4 x7_73 x72_95 a0_0 a0_1 a0_2 l0_3 l0_4 a1_0 a1_1 a1_2 l1_3 l1_4 (Go.bits .and .i64 a0_0 a1_0) x157001_24 x157002_44 x157003_4 x157004_4 = some (r1, r2, r3, r4, r5)) ∧ Aside0 (kq ≤ kj73) ∧ Aside0 (Kd.R (Kd.int .i64) 3 wc w.heap.size (fun k_ => some k_ ≠ (u157004 : Value).ownBlock) u157003 x157003_4) ∧ Aside0 (Kd.R (Kd.int .i64) 3 wc w.heap.size (fun k_ => some k_ ≠ (u157003 : Value).ownBlock) u157004 x157004_4) ∧ Aside0 (wc.heap[gb151]? = some (.cells #[.int .i64 a0_0, .int .i64 a0_1, .int .i64 a0_2, (.slice A0_3 l0_3.length c0_3), (.slice A0_4 l0_4.length c0_4)] 27 (0, 0))) ∧ Aside0 (wc.heap[gb152]? = some (.cells #[.int .i64 a1_0, .int .i64 a1_1, .int .i64 a1_2, (.slice A1_3 l1_3.length c1_3), (.slice A1_4 l1_4.length c1_4)] 27 (0, 0))) ∧ Aside0 (wc.heap[gb153]? = some (.cells #[.int .i64 0, .int .i64 0, .int .i64 0, (.slice none 0 0), (.slice none 0 0)] 27 (0, 0))) ∧ Aside0 (wc.heap[gb156]? = some (.cells #[.int .i64 (Go.bits .and .i64 a0_0 a1_0), .int .i64 x157001_24, .int .i64 x157002_44, u157003, u157004] 27 (0, 0))) ∧ Aside0 (Below w.heap.size w wc))
             case first =>
              have H := HC96.out
              clear HC96
              replace H := Option.bind_eq_some_iff.mp H
              obtain ⟨t159, A970, H⟩ := H
              try dsimp only at H
              have A97 := Aside0.mk A970
              clear A970
              by_cases c98 : t159 = true
              rotate_left
              ·replace c98 := Bool.eq_false_iff.mpr c98
               subst c98
               have H1 : (spec_Both.j5 kj73 x6_4 x7_73 false a0_0 a0_1 a0_2 l0_3 l0_4 a1_0 a1_1 a1_2 l1_3 l1_4 (Go.bits .and .i64 a0_0 a1_0) x157001_24 x157002_44 x157003_4 x157004_4) = some (r1, r2, r3, r4, r5) := by (first | (rw [if_neg (show ¬ (false = true) by decide)] at H; exact H) | rfl)
               clear H
               have H := H1
               clear H1
               have H' := Aside0.mk H
               clear H
               have hnb103 := NB156_151.out
               have hnc103 := NB151_156.out
               have hnb104 := NB156_152.out
               have hnc104 := NB152_156.out
               have hnb105 := NB156_153.out
               have hnc105 := NB153_156.out
               have hcz106_0 : wc.cell? ⟨gb156, 0, none⟩ = some (.int .i64 (Go.bits .and .i64 a0_0 a1_0)) := (blk_cell BK156.out 0).trans rfl
               have hcz106_1 : wc.cell? ⟨gb156, 1, none⟩ = some (.int .i64 x157001_24) := (blk_cell BK156.out 1).trans rfl
               have hcz106_2 : wc.cell? ⟨gb156, 2, none⟩ = some (.int .i64 x157002_44) := (blk_cell BK156.out 2).trans rfl
               have hcz106_3 : wc.cell? ⟨gb156, 3, none⟩ = some (u157003) := (blk_cell BK156.out 3).trans rfl
               have hcz106_4 : wc.cell? ⟨gb156, 4, none⟩ = some (u157004) := (blk_cell BK156.out 4).trans rfl
               have hfz106_0 := blk_frozen BK156.out 0
               have hfz106_1 := blk_frozen BK156.out 1
               have hfz106_2 := blk_frozen BK156.out 2
               have hfz106_3 := blk_frozen BK156.out 3
               have hfz106_4 := blk_frozen BK156.out 4
               go_wp2_with (first | ((with_reducible refine gate_callee (f := 40) rfl ?_); refine goesL_ (some 68) rfl rfl Try.func40 (by kernel_rfl) rfl #[.int .i64 (Go.bits .and .i64 a0_0 a1_0), .int .i64 x6_4] rfl (by (try simp only [List.map_toArray, List.map_cons, List.map_nil]); first | done | rfl) ?_; (with_reducible refine (spec_l01Week.calls (Go.bits .and .i64 a0_0 a1_0) x6_4 false _ A97.out).mono ?_); rintro e w' ⟨rfl, ⟨nd, rfl⟩⟩; refine ⟨_, rfl, ?_⟩))
               go_meet
               case rel => exact ⟨_, (false), (by first | rfl | (simp; done) | (simp [*]; done)), H', ⟨by have := HJ2.out; have := HJ24.out; have := HJ44.out; have := HK4.out; have := HJ73.out; first | omega | exact Nat.le_refl _⟩, ⟨by (with_reducible repeat (first | apply Kd.R_alloc | apply Kd.R_drewN | apply Kd.R_drew)); exact HO_157003.out⟩, ⟨by (with_reducible repeat (first | apply Kd.R_alloc | apply Kd.R_drewN | apply Kd.R_drew)); exact HO_157004.out⟩, ⟨by (with_reducible repeat (first | refine blk_drewN ?_ _ | refine blk_drew ?_ | refine blk_alloc ?_ _)); exact BK151.out⟩, ⟨by (with_reducible repeat (first | refine blk_drewN ?_ _ | refine blk_drew ?_ | refine blk_alloc ?_ _)); exact BK152.out⟩, ⟨by (with_reducible repeat (first | refine blk_drewN ?_ _ | refine blk_drew ?_ | refine blk_alloc ?_ _)); exact BK153.out⟩, ⟨by (with_reducible repeat (first | refine blk_drewN ?_ _ | refine blk_drew ?_ | refine blk_alloc ?_ _)); exact BK156.out⟩, ⟨by repeat (first | (with_reducible first | exact HB.out | apply below_alloc | apply pw_below_drewN | apply below_drew1 | refine below_set ?_ GE151.out | refine below_set ?_ GE152.out | refine below_set ?_ GE153.out | refine below_set ?_ GE156.out) | exact HB.out)⟩⟩
              subst c98
              rw [if_pos rfl] at H
              have H' := Aside0.mk H
              clear H
              have hnb99 := NB156_151.out
              have hnc99 := NB151_156.out
              have hnb100 := NB156_152.out
              have hnc100 := NB152_156.out
              have hnb101 := NB156_153.out
              have hnc101 := NB153_156.out
              have hcz102_0 : wc.cell? ⟨gb156, 0, none⟩ = some (.int .i64 (Go.bits .and .i64 a0_0 a1_0)) := (blk_cell BK156.out 0).trans rfl
              have hcz102_1 : wc.cell? ⟨gb156, 1, none⟩ = some (.int .i64 x157001_24) := (blk_cell BK156.out 1).trans rfl
              have hcz102_2 : wc.cell? ⟨gb156, 2, none⟩ = some (.int .i64 x157002_44) := (blk_cell BK156.out 2).trans rfl
              have hcz102_3 : wc.cell? ⟨gb156, 3, none⟩ = some (u157003) := (blk_cell BK156.out 3).trans rfl
              have hcz102_4 : wc.cell? ⟨gb156, 4, none⟩ = some (u157004) := (blk_cell BK156.out 4).trans rfl
              have hfz102_0 := blk_frozen BK156.out 0
              have hfz102_1 := blk_frozen BK156.out 1
              have hfz102_2 := blk_frozen BK156.out 2
              have hfz102_3 := blk_frozen BK156.out 3
              have hfz102_4 := blk_frozen BK156.out 4
              go_wp2_with (first | ((with_reducible refine gate_callee (f := 40) rfl ?_); refine goesL_ (some 68) rfl rfl Try.func40 (by kernel_rfl) rfl #[.int .i64 (Go.bits .and .i64 a0_0 a1_0), .int .i64 x6_4] rfl (by (try simp only [List.map_toArray, List.map_cons, List.map_nil]); first | done | rfl) ?_; (with_reducible refine (spec_l01Week.calls (Go.bits .and .i64 a0_0 a1_0) x6_4 true _ A97.out).mono ?_); rintro e w' ⟨rfl, ⟨nd, rfl⟩⟩; refine ⟨_, rfl, ?_⟩))
              go_meet
              case rel => exact ⟨_, (!x7_73), (by first | rfl | (simp; done) | (simp [*]; done)), H', ⟨by have := HJ2.out; have := HJ24.out; have := HJ44.out; have := HK4.out; have := HJ73.out; first | omega | exact Nat.le_refl _⟩, ⟨by (with_reducible repeat (first | apply Kd.R_alloc | apply Kd.R_drewN | apply Kd.R_drew)); exact HO_157003.out⟩, ⟨by (with_reducible repeat (first | apply Kd.R_alloc | apply Kd.R_drewN | apply Kd.R_drew)); exact HO_157004.out⟩, ⟨by (with_reducible repeat (first | refine blk_drewN ?_ _ | refine blk_drew ?_ | refine blk_alloc ?_ _)); exact BK151.out⟩, ⟨by (with_reducible repeat (first | refine blk_drewN ?_ _ | refine blk_drew ?_ | refine blk_alloc ?_ _)); exact BK152.out⟩, ⟨by (with_reducible repeat (first | refine blk_drewN ?_ _ | refine blk_drew ?_ | refine blk_alloc ?_ _)); exact BK153.out⟩, ⟨by (with_reducible repeat (first | refine blk_drewN ?_ _ | refine blk_drew ?_ | refine blk_alloc ?_ _)); exact BK156.out⟩, ⟨by repeat (first | (with_reducible first | exact HB.out | apply below_alloc | apply pw_below_drewN | apply below_drew1 | refine below_set ?_ GE151.out | refine below_set ?_ GE152.out | refine below_set ?_ GE153.out | refine below_set ?_ GE156.out) | exact HB.out)⟩⟩
             case rest =>
              clear HC96
              try clear c1
              try clear c2
              try clear p2
              try clear c3
              try clear c4
              try clear c5
              try clear c6
              try clear c7
              try clear c8
              try clear c9
              try clear c10
              try clear c11
              try clear c12
              try clear c14
              try clear c17
              try clear c18
              try clear c21
              try clear c22
              try clear c23
              try clear c26
              try clear c27
              try clear c29
              try clear c30
              try clear c32
              try clear c33
              try clear c34
              try clear c37
              try clear c37b0
              try clear c37b1
              try clear c38
              try clear c39
              try clear c40
              try clear c42
              try clear c43
              try clear c46
              try clear c47
              try clear c48
              try clear c50
              try clear c51
              try clear c53
              try clear c53b0
              try clear c53b1
              try clear c54
              try clear c55
              try clear c56
              try clear c58
              try clear c59
              try clear c61
              try clear c61b0
              try clear c62
              try clear c63
              try clear c64
              try clear c66
              try clear c67
              try clear c69
              try clear c70
              try clear c71
              try clear c73
              try clear c73b0
              try clear c75
              try clear c76
              try clear c77
              try clear c80
              try clear c82
              try clear c83
              try clear c84
              try clear c87
              try clear c88
              try clear c91
              try clear c92
              try clear c93
              try clear c98
              try clear c99
              try clear c100
              try clear c101
              try clear c103
              try clear c104
              try clear c105
              try clear hcz102_0
              try clear hcz102_1
              try clear hcz102_2
              try clear hcz102_3
              try clear hcz102_4
              try clear hcz106_0
              try clear hcz106_1
              try clear hcz106_2
              try clear hcz106_3
              try clear hcz106_4
              try clear hcz12_0
              try clear hcz12_1
              try clear hcz12_2
              try clear hcz12_3
              try clear hcz12_4
              try clear hcz15_0
              try clear hcz15_1
              try clear hcz15_2
              try clear hcz15_3
              try clear hcz15_4
              try clear hcz19_0
              try clear hcz19_1
              try clear hcz19_2
              try clear hcz19_3
              try clear hcz19_4
              try clear hcz24_0
              try clear hcz24_1
              try clear hcz24_2
              try clear hcz24_3
              try clear hcz24_4
              try clear hcz28_0
              try clear hcz28_1
              try clear hcz28_2
              try clear hcz28_3
              try clear hcz28_4
              try clear hcz30_0
              try clear hcz30_1
              try clear hcz30_2
              try clear hcz30_3
              try clear hcz30_4
              try clear hcz35_0
              try clear hcz35_1
              try clear hcz35_2
              try clear hcz35_3
              try clear hcz35_4
              try clear hcz36_0
              try clear hcz36_1
              try clear hcz36_2
              try clear hcz36_3
              try clear hcz36_4
              try clear hcz41_0
              try clear hcz41_1
              try clear hcz41_2
              try clear hcz41_3
              try clear hcz41_4
              try clear hcz44_0
              try clear hcz44_1
              try clear hcz44_2
              try clear hcz44_3
              try clear hcz44_4
              try clear hcz49_0
              try clear hcz49_1
              try clear hcz49_2
              try clear hcz49_3
              try clear hcz49_4
              try clear hcz52_0
              try clear hcz52_1
              try clear hcz52_2
              try clear hcz52_3
              try clear hcz52_4
              try clear hcz57_0
              try clear hcz57_1
              try clear hcz57_2
              try clear hcz57_3
              try clear hcz57_4
              try clear hcz60_0
              try clear hcz60_1
              try clear hcz60_2
              try clear hcz60_3
              try clear hcz60_4
              try clear hcz65_0
              try clear hcz65_1
              try clear hcz65_2
              try clear hcz65_3
              try clear hcz65_4
              try clear hcz68_0
              try clear hcz68_1
              try clear hcz68_2
              try clear hcz68_3
              try clear hcz68_4
              try clear hcz72_0
              try clear hcz72_1
              try clear hcz72_2
              try clear hcz72_3
              try clear hcz72_4
              try clear hcz78_0
              try clear hcz78_1
              try clear hcz78_2
              try clear hcz78_3
              try clear hcz78_4
              try clear hcz85_0
              try clear hcz85_1
              try clear hcz85_2
              try clear hcz85_3
              try clear hcz85_4
              try clear hcz89_0
              try clear hcz89_1
              try clear hcz89_2
              try clear hcz89_3
              try clear hcz89_4
              try clear hcz94_0
              try clear hcz94_1
              try clear hcz94_2
              try clear hcz94_3
              try clear hcz94_4
              try clear hfz102_0
              try clear hfz102_1
              try clear hfz102_2
              try clear hfz102_3
              try clear hfz102_4
              try clear hfz106_0
              try clear hfz106_1
              try clear hfz106_2
              try clear hfz106_3
              try clear hfz106_4
              try clear hfz12_0
              try clear hfz12_1
              try clear hfz12_2
              try clear hfz12_3
              try clear hfz12_4
              try clear hfz15_0
              try clear hfz15_1
              try clear hfz15_2
              try clear hfz15_3
              try clear hfz15_4
              try clear hfz19_0
              try clear hfz19_1
              try clear hfz19_2
              try clear hfz19_3
              try clear hfz19_4
              try clear hfz24_0
              try clear hfz24_1
              try clear hfz24_2
              try clear hfz24_3
              try clear hfz24_4
              try clear hfz28_0
              try clear hfz28_1
              try clear hfz28_2
              try clear hfz28_3
              try clear hfz28_4
              try clear hfz30_0
              try clear hfz30_1
              try clear hfz30_2
              try clear hfz30_3
              try clear hfz30_4
              try clear hfz35_0
              try clear hfz35_1
              try clear hfz35_2
              try clear hfz35_3
              try clear hfz35_4
              try clear hfz36_0
              try clear hfz36_1
              try clear hfz36_2
              try clear hfz36_3
              try clear hfz36_4
              try clear hfz41_0
              try clear hfz41_1
              try clear hfz41_2
              try clear hfz41_3
              try clear hfz41_4
              try clear hfz44_0
              try clear hfz44_1
              try clear hfz44_2
              try clear hfz44_3
              try clear hfz44_4
              try clear hfz49_0
              try clear hfz49_1
              try clear hfz49_2
              try clear hfz49_3
              try clear hfz49_4
              try clear hfz52_0
              try clear hfz52_1
              try clear hfz52_2
              try clear hfz52_3
              try clear hfz52_4
              try clear hfz57_0
              try clear hfz57_1
              try clear hfz57_2
              try clear hfz57_3
              try clear hfz57_4
              try clear hfz60_0
              try clear hfz60_1
              try clear hfz60_2
              try clear hfz60_3
              try clear hfz60_4
              try clear hfz65_0
              try clear hfz65_1
              try clear hfz65_2
              try clear hfz65_3
              try clear hfz65_4
              try clear hfz68_0
              try clear hfz68_1
              try clear hfz68_2
              try clear hfz68_3
              try clear hfz68_4
              try clear hfz72_0
              try clear hfz72_1
              try clear hfz72_2
              try clear hfz72_3
              try clear hfz72_4
              try clear hfz78_0
              try clear hfz78_1
              try clear hfz78_2
              try clear hfz78_3
              try clear hfz78_4
              try clear hfz85_0
              try clear hfz85_1
              try clear hfz85_2
              try clear hfz85_3
              try clear hfz85_4
              try clear hfz89_0
              try clear hfz89_1
              try clear hfz89_2
              try clear hfz89_3
              try clear hfz89_4
              try clear hfz94_0
              try clear hfz94_1
              try clear hfz94_2
              try clear hfz94_3
              try clear hfz94_4
              try clear p2
              obtain ⟨kq, x72_95, rfl, HA, HJ95, HO_157003, HO_157004, BK151, BK152, BK153, BK156, HB⟩ := hcut
              cases kq with
              | zero => exact absurd HA.out (by simp [spec_Both.j5])
              | succ kj95 =>
               have H := HA.out
               clear HA
               simp only [spec_Both.j5] at H
               by_cases c107 : x72_95 = true
               rotate_left
               ·replace c107 := Bool.eq_false_iff.mpr c107
                subst c107
                have H1 : ((spec_l01Week.f (Go.bits .and .i64 a0_0 a1_0) x6_4).bind fun t167 => (if t167 = true then (spec_Both.l0 kj95 (wrap64 (x6_4 + 1)) a0_0 a0_1 a0_2 l0_3 l0_4 a1_0 a1_1 a1_2 l1_3 l1_4 (Go.bits .and .i64 a0_0 a1_0) x157001_24 x157002_44 x157003_4 x157004_4) else (if x7_73 = true then (if x157004_4.length < 17592186044416 then (spec_Both.l0 kj95 (wrap64 (x6_4 + 1)) a0_0 a0_1 a0_2 l0_3 l0_4 a1_0 a1_1 a1_2 l1_3 l1_4 (Go.bits .and .i64 a0_0 a1_0) x157001_24 x157002_44 x157003_4 (x157004_4 ++ [x6_4])) else (none)) else (spec_Both.l0 kj95 (wrap64 (x6_4 + 1)) a0_0 a0_1 a0_2 l0_3 l0_4 a1_0 a1_1 a1_2 l1_3 l1_4 (Go.bits .and .i64 a0_0 a1_0) x157001_24 x157002_44 x157003_4 x157004_4)))) = some (r1, r2, r3, r4, r5) := by (first | (rw [if_neg (show ¬ (false = true) by decide)] at H; exact H) | rfl)
                clear H
                have H := H1
                clear H1
                replace H := Option.bind_eq_some_iff.mp H
                obtain ⟨t167, A1370, H⟩ := H
                try dsimp only at H
                have A137 := Aside0.mk A1370
                clear A1370
                by_cases c138 : t167 = true
                rotate_left
                ·replace c138 := Bool.eq_false_iff.mpr c138
                 subst c138
                 have H1 : (if x7_73 = true then (if x157004_4.length < 17592186044416 then (spec_Both.l0 kj95 (wrap64 (x6_4 + 1)) a0_0 a0_1 a0_2 l0_3 l0_4 a1_0 a1_1 a1_2 l1_3 l1_4 (Go.bits .and .i64 a0_0 a1_0) x157001_24 x157002_44 x157003_4 (x157004_4 ++ [x6_4])) else (none)) else (spec_Both.l0 kj95 (wrap64 (x6_4 + 1)) a0_0 a0_1 a0_2 l0_3 l0_4 a1_0 a1_1 a1_2 l1_3 l1_4 (Go.bits .and .i64 a0_0 a1_0) x157001_24 x157002_44 x157003_4 x157004_4)) = some (r1, r2, r3, r4, r5) := by (first | (rw [if_neg (show ¬ (false = true) by decide)] at H; exact H) | rfl)
                 clear H
                 have H := H1
                 clear H1
                 by_cases c143 : x7_73 = true
                 rotate_left
                 ·replace c143 := Bool.eq_false_iff.mpr c143
                  subst c143
                  have H1 : (spec_Both.l0 kj95 (wrap64 (x6_4 + 1)) a0_0 a0_1 a0_2 l0_3 l0_4 a1_0 a1_1 a1_2 l1_3 l1_4 (Go.bits .and .i64 a0_0 a1_0) x157001_24 x157002_44 x157003_4 x157004_4) = some (r1, r2, r3, r4, r5) := by (first | (rw [if_neg (show ¬ (false = true) by decide)] at H; exact H) | rfl)
                  clear H
                  have H := H1
                  clear H1
                  have H' := Aside0.mk H
                  clear H
                  have hnb153 := NB156_151.out
                  have hnc153 := NB151_156.out
                  have hnb154 := NB156_152.out
                  have hnc154 := NB152_156.out
                  have hnb155 := NB156_153.out
                  have hnc155 := NB153_156.out
                  have hcz156_0 : wc.cell? ⟨gb156, 0, none⟩ = some (.int .i64 (Go.bits .and .i64 a0_0 a1_0)) := (blk_cell BK156.out 0).trans rfl
                  have hcz156_1 : wc.cell? ⟨gb156, 1, none⟩ = some (.int .i64 x157001_24) := (blk_cell BK156.out 1).trans rfl
                  have hcz156_2 : wc.cell? ⟨gb156, 2, none⟩ = some (.int .i64 x157002_44) := (blk_cell BK156.out 2).trans rfl
                  have hcz156_3 : wc.cell? ⟨gb156, 3, none⟩ = some (u157003) := (blk_cell BK156.out 3).trans rfl
                  have hcz156_4 : wc.cell? ⟨gb156, 4, none⟩ = some (u157004) := (blk_cell BK156.out 4).trans rfl
                  have hfz156_0 := blk_frozen BK156.out 0
                  have hfz156_1 := blk_frozen BK156.out 1
                  have hfz156_2 := blk_frozen BK156.out 2
                  have hfz156_3 := blk_frozen BK156.out 3
                  have hfz156_4 := blk_frozen BK156.out 4
                  go_wp2_with (first | ((with_reducible refine gate_callee (f := 40) rfl ?_); refine goesL_ (some 82) rfl rfl Try.func40 (by kernel_rfl) rfl #[.int .i64 (Go.bits .and .i64 a0_0 a1_0), .int .i64 x6_4] rfl (by (try simp only [List.map_toArray, List.map_cons, List.map_nil]); first | done | rfl) ?_; (with_reducible refine (spec_l01Week.calls (Go.bits .and .i64 a0_0 a1_0) x6_4 false _ A137.out).mono ?_); rintro e w' ⟨rfl, ⟨nd, rfl⟩⟩; refine ⟨_, rfl, ?_⟩))
                  go_roundg kj95
                  case measure => have := HJ2.out; have := HJ24.out; have := HJ44.out; have := HK4.out; have := HJ73.out; have := HJ95.out; omega
                  case rel => exact ⟨(wrap64 (x6_4 + 1)), (x157003_4), (x157004_4), (u157003), (u157004), (by first | rfl | (simp; done) | (simp [*]; done)), H', ⟨by have := HJ2.out; have := HJ24.out; have := HJ44.out; have := HK4.out; have := HJ73.out; have := HJ95.out; omega⟩, ⟨by (with_reducible repeat (first | apply Kd.R_alloc | apply Kd.R_drewN | apply Kd.R_drew)); exact HO_157003.out⟩, ⟨by (with_reducible repeat (first | apply Kd.R_alloc | apply Kd.R_drewN | apply Kd.R_drew)); exact HO_157004.out⟩, ⟨by (with_reducible repeat (first | refine blk_drewN ?_ _ | refine blk_drew ?_ | refine blk_alloc ?_ _)); exact BK151.out⟩, ⟨by (with_reducible repeat (first | refine blk_drewN ?_ _ | refine blk_drew ?_ | refine blk_alloc ?_ _)); exact BK152.out⟩, ⟨by (with_reducible repeat (first | refine blk_drewN ?_ _ | refine blk_drew ?_ | refine blk_alloc ?_ _)); exact BK153.out⟩, ⟨by (with_reducible repeat (first | refine blk_drewN ?_ _ | refine blk_drew ?_ | refine blk_alloc ?_ _)); exact BK156.out⟩, ⟨by repeat (first | (with_reducible first | exact HB.out | apply below_alloc | apply pw_below_drewN | apply below_drew1 | refine below_set ?_ GE151.out | refine below_set ?_ GE152.out | refine below_set ?_ GE153.out | refine below_set ?_ GE156.out) | exact HB.out)⟩⟩
                 subst c143
                 rw [if_pos rfl] at H
                 by_cases c144 : x157004_4.length < 17592186044416
                 rotate_left
                 ·rw [if_neg c144] at H
                  exact absurd H (by simp)
                 rw [if_pos c144] at H
                 have LMc144 := Aside0.mk c144
                 clear c144
                 obtain ⟨y168, hy168⟩ : ∃ y_ : List Int, y_ = (x157004_4 ++ [x6_4]) := ⟨_, rfl⟩
                 replace H : (spec_Both.l0 kj95 (wrap64 (x6_4 + 1)) a0_0 a0_1 a0_2 l0_3 l0_4 a1_0 a1_1 a1_2 l1_3 l1_4 (Go.bits .and .i64 a0_0 a1_0) x157001_24 x157002_44 x157003_4 y168) = some (r1, r2, r3, r4, r5) := by first | (rw [hy168]; with_reducible exact H) | (have H2_ := (Option.bind_some _ _).symm.trans H; rw [hy168]; with_reducible exact H2_) | (have H2_ := (Option.bind_some _ _).symm.trans H; with_reducible exact H2_) | with_reducible exact H | (rw [hy168]; exact H) | exact H
                 have Ny168 := Aside0.mk hy168
                 clear hy168
                 have H' := Aside0.mk H
                 clear H
                 have hnb145 := NB156_151.out
                 have hnc145 := NB151_156.out
                 have hnb146 := NB156_152.out
                 have hnc146 := NB152_156.out
                 have hnb147 := NB156_153.out
                 have hnc147 := NB153_156.out
                 have hcz148_0 : wc.cell? ⟨gb156, 0, none⟩ = some (.int .i64 (Go.bits .and .i64 a0_0 a1_0)) := (blk_cell BK156.out 0).trans rfl
                 have hcz148_1 : wc.cell? ⟨gb156, 1, none⟩ = some (.int .i64 x157001_24) := (blk_cell BK156.out 1).trans rfl
                 have hcz148_2 : wc.cell? ⟨gb156, 2, none⟩ = some (.int .i64 x157002_44) := (blk_cell BK156.out 2).trans rfl
                 have hcz148_3 : wc.cell? ⟨gb156, 3, none⟩ = some (u157003) := (blk_cell BK156.out 3).trans rfl
                 have hcz148_4 : wc.cell? ⟨gb156, 4, none⟩ = some (u157004) := (blk_cell BK156.out 4).trans rfl
                 have hfz148_0 := blk_frozen BK156.out 0
                 have hfz148_1 := blk_frozen BK156.out 1
                 have hfz148_2 := blk_frozen BK156.out 2
                 have hfz148_3 := blk_frozen BK156.out 3
                 have hfz148_4 := blk_frozen BK156.out 4
                 go_wp2_with (first | ((with_reducible refine gate_callee (f := 40) rfl ?_); refine goesL_ (some 82) rfl rfl Try.func40 (by kernel_rfl) rfl #[.int .i64 (Go.bits .and .i64 a0_0 a1_0), .int .i64 x6_4] rfl (by (try simp only [List.map_toArray, List.map_cons, List.map_nil]); first | done | rfl) ?_; (with_reducible refine (spec_l01Week.calls (Go.bits .and .i64 a0_0 a1_0) x6_4 false _ A137.out).mono ?_); rintro e w' ⟨rfl, ⟨nd, rfl⟩⟩; refine ⟨_, rfl, ?_⟩; (first | (rw [drewN_self wc]; generalize hq_ : World.drewN wc _ = wc; replace HO_157003 : Aside0 (Kd.R (Kd.int .i64) 3 wc w.heap.size (fun k_ => some k_ ≠ (u157004 : Value).ownBlock) u157003 x157003_4) := ⟨by rw [← hq_]; exact (by (with_reducible repeat (first | apply Kd.R_alloc | apply Kd.R_drewN | apply Kd.R_drew)); exact HO_157003.out)⟩; replace HO_157004 : Aside0 (Kd.R (Kd.int .i64) 3 wc w.heap.size (fun k_ => some k_ ≠ (u157003 : Value).ownBlock) u157004 x157004_4) := ⟨by rw [← hq_]; exact (by (with_reducible repeat (first | apply Kd.R_alloc | apply Kd.R_drewN | apply Kd.R_drew)); exact HO_157004.out)⟩; replace BK151 : Aside0 (wc.heap[gb151]? = some (.cells #[.int .i64 a0_0, .int .i64 a0_1, .int .i64 a0_2, .slice A0_3 l0_3.length c0_3, .slice A0_4 l0_4.length c0_4] 27 (0, 0))) := ⟨by rw [← hq_]; exact (by (with_reducible repeat (first | refine blk_drewN ?_ _ | refine blk_drew ?_ | refine blk_alloc ?_ _)); exact BK151.out)⟩; replace BK152 : Aside0 (wc.heap[gb152]? = some (.cells #[.int .i64 a1_0, .int .i64 a1_1, .int .i64 a1_2, .slice A1_3 l1_3.length c1_3, .slice A1_4 l1_4.length c1_4] 27 (0, 0))) := ⟨by rw [← hq_]; exact (by (with_reducible repeat (first | refine blk_drewN ?_ _ | refine blk_drew ?_ | refine blk_alloc ?_ _)); exact BK152.out)⟩; replace BK153 : Aside0 (wc.heap[gb153]? = some (.cells #[.int .i64 0, .int .i64 0, .int .i64 0, .slice none 0 0, .slice none 0 0] 27 (0, 0))) := ⟨by rw [← hq_]; exact (by (with_reducible repeat (first | refine blk_drewN ?_ _ | refine blk_drew ?_ | refine blk_alloc ?_ _)); exact BK153.out)⟩; replace BK156 : Aside0 (wc.heap[gb156]? = some (.cells #[.int .i64 (Go.bits .and .i64 a0_0 a1_0), .int .i64 x157001_24, .int .i64 x157002_44, u157003, u157004] 27 (0, 0))) := ⟨by rw [← hq_]; exact (by (with_reducible repeat (first | refine blk_drewN ?_ _ | refine blk_drew ?_ | refine blk_alloc ?_ _)); exact BK156.out)⟩; replace HB : Aside0 (Below w.heap.size w wc) := ⟨by rw [← hq_]; exact (by repeat (first | (with_reducible first | exact HB.out | apply below_alloc | apply pw_below_drewN | apply below_drew1 | refine below_set ?_ GE151.out | refine below_set ?_ GE152.out | refine below_set ?_ GE153.out | refine below_set ?_ GE156.out) | exact HB.out))⟩; clear hq_) | (have n0_ : Aside0 (Kd.R (Kd.int .i64) 3 wc w.heap.size (fun k_ => some k_ ≠ (u157004 : Value).ownBlock) u157003 x157003_4) := ⟨(by (with_reducible repeat (first | apply Kd.R_alloc | apply Kd.R_drewN | apply Kd.R_drew)); exact HO_157003.out)⟩; have n1_ : Aside0 (Kd.R (Kd.int .i64) 3 wc w.heap.size (fun k_ => some k_ ≠ (u157003 : Value).ownBlock) u157004 x157004_4) := ⟨(by (with_reducible repeat (first | apply Kd.R_alloc | apply Kd.R_drewN | apply Kd.R_drew)); exact HO_157004.out)⟩; have n2_ : Aside0 (wc.heap[gb151]? = some (.cells #[.int .i64 a0_0, .int .i64 a0_1, .int .i64 a0_2, .slice A0_3 l0_3.length c0_3, .slice A0_4 l0_4.length c0_4] 27 (0, 0))) := ⟨(by (with_reducible repeat (first | refine blk_drewN ?_ _ | refine blk_drew ?_ | refine blk_alloc ?_ _)); exact BK151.out)⟩; have n3_ : Aside0 (wc.heap[gb152]? = some (.cells #[.int .i64 a1_0, .int .i64 a1_1, .int .i64 a1_2, .slice A1_3 l1_3.length c1_3, .slice A1_4 l1_4.length c1_4] 27 (0, 0))) := ⟨(by (with_reducible repeat (first | refine blk_drewN ?_ _ | refine blk_drew ?_ | refine blk_alloc ?_ _)); exact BK152.out)⟩; have n4_ : Aside0 (wc.heap[gb153]? = some (.cells #[.int .i64 0, .int .i64 0, .int .i64 0, .slice none 0 0, .slice none 0 0] 27 (0, 0))) := ⟨(by (with_reducible repeat (first | refine blk_drewN ?_ _ | refine blk_drew ?_ | refine blk_alloc ?_ _)); exact BK153.out)⟩; have n5_ : Aside0 (wc.heap[gb156]? = some (.cells #[.int .i64 (Go.bits .and .i64 a0_0 a1_0), .int .i64 x157001_24, .int .i64 x157002_44, u157003, u157004] 27 (0, 0))) := ⟨(by (with_reducible repeat (first | refine blk_drewN ?_ _ | refine blk_drew ?_ | refine blk_alloc ?_ _)); exact BK156.out)⟩; have n6_ : Aside0 (Below w.heap.size w wc) := ⟨(by repeat (first | (with_reducible first | exact HB.out | apply below_alloc | apply pw_below_drewN | apply below_drew1 | refine below_set ?_ GE151.out | refine below_set ?_ GE152.out | refine below_set ?_ GE153.out | refine below_set ?_ GE156.out) | exact HB.out))⟩; clear HO_157003 HO_157004 BK151 BK152 BK153 BK156 HB; have HO_157003 := n0_; have HO_157004 := n1_; have BK151 := n2_; have BK152 := n3_; have BK153 := n4_; have BK156 := n5_; have HB := n6_; clear n0_ n1_ n2_ n3_ n4_ n5_ n6_)); have hcz149_0 : wc.cell? ⟨gb156, 0, none⟩ = some (.int .i64 (Go.bits .and .i64 a0_0 a1_0)) := (blk_cell BK156.out 0).trans rfl; have hcz149_1 : wc.cell? ⟨gb156, 1, none⟩ = some (.int .i64 x157001_24) := (blk_cell BK156.out 1).trans rfl; have hcz149_2 : wc.cell? ⟨gb156, 2, none⟩ = some (.int .i64 x157002_44) := (blk_cell BK156.out 2).trans rfl; have hcz149_3 : wc.cell? ⟨gb156, 3, none⟩ = some (u157003) := (blk_cell BK156.out 3).trans rfl; have hcz149_4 : wc.cell? ⟨gb156, 4, none⟩ = some (u157004) := (blk_cell BK156.out 4).trans rfl; have hfz149_0 := blk_frozen BK156.out 0; have hfz149_1 := blk_frozen BK156.out 1; have hfz149_2 := blk_frozen BK156.out 2; have hfz149_3 := blk_frozen BK156.out 3; have hfz149_4 := blk_frozen BK156.out 4) | ((with_reducible refine gate_builtin (b := .append) (xs := #[.tmp 88, .tmp 90]) rfl ?_); (try (refine gate_guard (by rfl) ?_; dsimp only)); at_builtin; refine Kd.R_append (Kd.int .i64) (w0 := w) w.heap.size rfl (.tmp 88) (.tmp 90) 22 3 (.int .i64 0) 8 rfl Try.underlying22 info3 rfl (by decide) (by omega) u157004 x157004_4 x6_4 [.int .i64 x6_4] (fun k_ => some k_ ≠ (u157003 : Value).ownBlock) (fun _ => False) rfl rfl ?aP (fun _ hk => hk.elim) ?aF ?aO ?aB ?aS ?aL ?_; (case aP => exact rfl); (case aB => exact HB.out); (case aF => exact (fun k_ hk => Kd.fresh' (Kd.R_lt HO_157003.out) k_ hk)); (case aO => exact HO_157004.out); (case aS => exact (below_size HB.out)); (case aL => have := LMc144.out; omega); intro v169 w150 ho hb hg hat; rw [← Ny168.out] at ho; replace HO_157003 := Aside0.mk (Kd.R_after (ok := (fun _ => True)) (Kd.R_mono HO_157003.out (fun _ hk => ⟨trivial, hk⟩)) hg hat); replace BK151 := Aside0.mk (blk_grown (g := gb151) (o := .cells #[.int .i64 a0_0, .int .i64 a0_1, .int .i64 a0_2, .slice A0_3 l0_3.length c0_3, .slice A0_4 l0_4.length c0_4] 27 (0, 0)) BK151.out hg (Kd.R_ne HO_157004.out BK151.out (by decide))); replace BK152 := Aside0.mk (blk_grown (g := gb152) (o := .cells #[.int .i64 a1_0, .int .i64 a1_1, .int .i64 a1_2, .slice A1_3 l1_3.length c1_3, .slice A1_4 l1_4.length c1_4] 27 (0, 0)) BK152.out hg (Kd.R_ne HO_157004.out BK152.out (by decide))); replace BK153 := Aside0.mk (blk_grown (g := gb153) (o := .cells #[.int .i64 0, .int .i64 0, .int .i64 0, .slice none 0 0, .slice none 0 0] 27 (0, 0)) BK153.out hg (Kd.R_ne HO_157004.out BK153.out (by decide))); replace BK156 := Aside0.mk (blk_grown (g := gb156) (o := .cells #[.int .i64 (Go.bits .and .i64 a0_0 a1_0), .int .i64 x157001_24, .int .i64 x157002_44, u157003, u157004] 27 (0, 0)) BK156.out hg (Kd.R_ne HO_157004.out BK156.out (by decide))); replace HB := Aside0.mk (hb); have HO170 := Aside0.mk (ho); clear HO_157004; clear ho hb hg hat; obtain ⟨Ao151, co151, eo151⟩ := Kd.R_slice HO170.out; subst eo151; have hcz152_0 : w150.cell? ⟨gb156, 0, none⟩ = some (.int .i64 (Go.bits .and .i64 a0_0 a1_0)) := (blk_cell BK156.out 0).trans rfl; have hcz152_1 : w150.cell? ⟨gb156, 1, none⟩ = some (.int .i64 x157001_24) := (blk_cell BK156.out 1).trans rfl; have hcz152_2 : w150.cell? ⟨gb156, 2, none⟩ = some (.int .i64 x157002_44) := (blk_cell BK156.out 2).trans rfl; have hcz152_3 : w150.cell? ⟨gb156, 3, none⟩ = some (u157003) := (blk_cell BK156.out 3).trans rfl; have hcz152_4 : w150.cell? ⟨gb156, 4, none⟩ = some (u157004) := (blk_cell BK156.out 4).trans rfl; have hfz152_0 := blk_frozen BK156.out 0; have hfz152_1 := blk_frozen BK156.out 1; have hfz152_2 := blk_frozen BK156.out 2; have hfz152_3 := blk_frozen BK156.out 3; have hfz152_4 := blk_frozen BK156.out 4))
                 go_roundg kj95
                 case measure => have := HJ2.out; have := HJ24.out; have := HJ44.out; have := HK4.out; have := HJ73.out; have := HJ95.out; omega
                 case rel => exact ⟨(wrap64 (x6_4 + 1)), (x157003_4), (y168), (u157003), (.slice Ao151 y168.length co151), (by first | rfl | (simp; done) | (simp [*]; done)), H', ⟨by have := HJ2.out; have := HJ24.out; have := HJ44.out; have := HK4.out; have := HJ73.out; have := HJ95.out; omega⟩, ⟨by (with_reducible repeat (first | apply Kd.R_alloc | apply Kd.R_drewN | apply Kd.R_drew)); exact Kd.R_mono (Kd.R_far (p := ⟨gb156, 4, none⟩) (Kd.R_types HO_157003.out BK156.out (by decide)) (fun _ hk => hk.2) (.slice Ao151 y168.length co151)) (fun _ hk => hk.1.2)⟩, ⟨by (with_reducible repeat (first | apply Kd.R_alloc | apply Kd.R_drewN | apply Kd.R_drew)); exact Kd.R_mono (Kd.R_far (p := ⟨gb156, 4, none⟩) (Kd.R_types HO170.out BK156.out (by decide)) (fun _ hk => hk.2) (.slice Ao151 y168.length co151)) (fun _ hk => hk.1)⟩, ⟨by (with_reducible repeat (first | refine blk_drewN ?_ _ | refine blk_drew ?_ | refine blk_alloc ?_ _)); refine blk_far ?_ NB151_156.out _; (with_reducible repeat (first | refine blk_drewN ?_ _ | refine blk_drew ?_ | refine blk_alloc ?_ _)); exact BK151.out⟩, ⟨by (with_reducible repeat (first | refine blk_drewN ?_ _ | refine blk_drew ?_ | refine blk_alloc ?_ _)); refine blk_far ?_ NB152_156.out _; (with_reducible repeat (first | refine blk_drewN ?_ _ | refine blk_drew ?_ | refine blk_alloc ?_ _)); exact BK152.out⟩, ⟨by (with_reducible repeat (first | refine blk_drewN ?_ _ | refine blk_drew ?_ | refine blk_alloc ?_ _)); refine blk_far ?_ NB153_156.out _; (with_reducible repeat (first | refine blk_drewN ?_ _ | refine blk_drew ?_ | refine blk_alloc ?_ _)); exact BK153.out⟩, ⟨by (with_reducible repeat (first | refine blk_drewN ?_ _ | refine blk_drew ?_ | refine blk_alloc ?_ _)); refine blk_put (cs := #[.int .i64 (Go.bits .and .i64 a0_0 a1_0), .int .i64 x157001_24, .int .i64 x157002_44, u157003, u157004]) ?_ 4 _ rfl; (with_reducible repeat (first | refine blk_drewN ?_ _ | refine blk_drew ?_ | refine blk_alloc ?_ _)); exact BK156.out⟩, ⟨by repeat (first | (with_reducible first | exact HB.out | apply below_alloc | apply pw_below_drewN | apply below_drew1 | refine below_set ?_ GE151.out | refine below_set ?_ GE152.out | refine below_set ?_ GE153.out | refine below_set ?_ GE156.out) | exact HB.out)⟩⟩
                subst c138
                rw [if_pos rfl] at H
                have H' := Aside0.mk H
                clear H
                have hnb139 := NB156_151.out
                have hnc139 := NB151_156.out
                have hnb140 := NB156_152.out
                have hnc140 := NB152_156.out
                have hnb141 := NB156_153.out
                have hnc141 := NB153_156.out
                have hcz142_0 : wc.cell? ⟨gb156, 0, none⟩ = some (.int .i64 (Go.bits .and .i64 a0_0 a1_0)) := (blk_cell BK156.out 0).trans rfl
                have hcz142_1 : wc.cell? ⟨gb156, 1, none⟩ = some (.int .i64 x157001_24) := (blk_cell BK156.out 1).trans rfl
                have hcz142_2 : wc.cell? ⟨gb156, 2, none⟩ = some (.int .i64 x157002_44) := (blk_cell BK156.out 2).trans rfl
                have hcz142_3 : wc.cell? ⟨gb156, 3, none⟩ = some (u157003) := (blk_cell BK156.out 3).trans rfl
                have hcz142_4 : wc.cell? ⟨gb156, 4, none⟩ = some (u157004) := (blk_cell BK156.out 4).trans rfl
                have hfz142_0 := blk_frozen BK156.out 0
                have hfz142_1 := blk_frozen BK156.out 1
                have hfz142_2 := blk_frozen BK156.out 2
                have hfz142_3 := blk_frozen BK156.out 3
                have hfz142_4 := blk_frozen BK156.out 4
                go_wp2_with (first | ((with_reducible refine gate_callee (f := 40) rfl ?_); refine goesL_ (some 82) rfl rfl Try.func40 (by kernel_rfl) rfl #[.int .i64 (Go.bits .and .i64 a0_0 a1_0), .int .i64 x6_4] rfl (by (try simp only [List.map_toArray, List.map_cons, List.map_nil]); first | done | rfl) ?_; (with_reducible refine (spec_l01Week.calls (Go.bits .and .i64 a0_0 a1_0) x6_4 true _ A137.out).mono ?_); rintro e w' ⟨rfl, ⟨nd, rfl⟩⟩; refine ⟨_, rfl, ?_⟩))
                go_roundg kj95
                case measure => have := HJ2.out; have := HJ24.out; have := HJ44.out; have := HK4.out; have := HJ73.out; have := HJ95.out; omega
                case rel => exact ⟨(wrap64 (x6_4 + 1)), (x157003_4), (x157004_4), (u157003), (u157004), (by first | rfl | (simp; done) | (simp [*]; done)), H', ⟨by have := HJ2.out; have := HJ24.out; have := HJ44.out; have := HK4.out; have := HJ73.out; have := HJ95.out; omega⟩, ⟨by (with_reducible repeat (first | apply Kd.R_alloc | apply Kd.R_drewN | apply Kd.R_drew)); exact HO_157003.out⟩, ⟨by (with_reducible repeat (first | apply Kd.R_alloc | apply Kd.R_drewN | apply Kd.R_drew)); exact HO_157004.out⟩, ⟨by (with_reducible repeat (first | refine blk_drewN ?_ _ | refine blk_drew ?_ | refine blk_alloc ?_ _)); exact BK151.out⟩, ⟨by (with_reducible repeat (first | refine blk_drewN ?_ _ | refine blk_drew ?_ | refine blk_alloc ?_ _)); exact BK152.out⟩, ⟨by (with_reducible repeat (first | refine blk_drewN ?_ _ | refine blk_drew ?_ | refine blk_alloc ?_ _)); exact BK153.out⟩, ⟨by (with_reducible repeat (first | refine blk_drewN ?_ _ | refine blk_drew ?_ | refine blk_alloc ?_ _)); exact BK156.out⟩, ⟨by repeat (first | (with_reducible first | exact HB.out | apply below_alloc | apply pw_below_drewN | apply below_drew1 | refine below_set ?_ GE151.out | refine below_set ?_ GE152.out | refine below_set ?_ GE153.out | refine below_set ?_ GE156.out) | exact HB.out)⟩⟩
               subst c107
               rw [if_pos rfl] at H
               by_cases c108 : x157003_4.length < 17592186044416
               rotate_left
               ·rw [if_neg c108] at H
                exact absurd H (by simp)
               rw [if_pos c108] at H
               have LMc108 := Aside0.mk c108
               clear c108
               obtain ⟨y160, hy160⟩ : ∃ y_ : List Int, y_ = (x157003_4 ++ [x6_4]) := ⟨_, rfl⟩
               replace H : ((spec_l01Week.f (Go.bits .and .i64 a0_0 a1_0) x6_4).bind fun t163 => (if t163 = true then (spec_Both.l0 kj95 (wrap64 (x6_4 + 1)) a0_0 a0_1 a0_2 l0_3 l0_4 a1_0 a1_1 a1_2 l1_3 l1_4 (Go.bits .and .i64 a0_0 a1_0) x157001_24 x157002_44 y160 x157004_4) else (if x7_73 = true then (if x157004_4.length < 17592186044416 then (spec_Both.l0 kj95 (wrap64 (x6_4 + 1)) a0_0 a0_1 a0_2 l0_3 l0_4 a1_0 a1_1 a1_2 l1_3 l1_4 (Go.bits .and .i64 a0_0 a1_0) x157001_24 x157002_44 y160 (x157004_4 ++ [x6_4])) else (none)) else (spec_Both.l0 kj95 (wrap64 (x6_4 + 1)) a0_0 a0_1 a0_2 l0_3 l0_4 a1_0 a1_1 a1_2 l1_3 l1_4 (Go.bits .and .i64 a0_0 a1_0) x157001_24 x157002_44 y160 x157004_4)))) = some (r1, r2, r3, r4, r5) := by first | (rw [hy160]; with_reducible exact H) | (have H2_ := (Option.bind_some _ _).symm.trans H; rw [hy160]; with_reducible exact H2_) | (have H2_ := (Option.bind_some _ _).symm.trans H; with_reducible exact H2_) | with_reducible exact H | (rw [hy160]; exact H) | exact H
               have Ny160 := Aside0.mk hy160
               clear hy160
               replace H := Option.bind_eq_some_iff.mp H
               obtain ⟨t163, A1090, H⟩ := H
               try dsimp only at H
               have A109 := Aside0.mk A1090
               clear A1090
               by_cases c110 : t163 = true
               rotate_left
               ·replace c110 := Bool.eq_false_iff.mpr c110
                subst c110
                have H1 : (if x7_73 = true then (if x157004_4.length < 17592186044416 then (spec_Both.l0 kj95 (wrap64 (x6_4 + 1)) a0_0 a0_1 a0_2 l0_3 l0_4 a1_0 a1_1 a1_2 l1_3 l1_4 (Go.bits .and .i64 a0_0 a1_0) x157001_24 x157002_44 y160 (x157004_4 ++ [x6_4])) else (none)) else (spec_Both.l0 kj95 (wrap64 (x6_4 + 1)) a0_0 a0_1 a0_2 l0_3 l0_4 a1_0 a1_1 a1_2 l1_3 l1_4 (Go.bits .and .i64 a0_0 a1_0) x157001_24 x157002_44 y160 x157004_4)) = some (r1, r2, r3, r4, r5) := by (first | (rw [if_neg (show ¬ (false = true) by decide)] at H; exact H) | rfl)
                clear H
                have H := H1
                clear H1
                by_cases c118 : x7_73 = true
                rotate_left
                ·replace c118 := Bool.eq_false_iff.mpr c118
                 subst c118
                 have H1 : (spec_Both.l0 kj95 (wrap64 (x6_4 + 1)) a0_0 a0_1 a0_2 l0_3 l0_4 a1_0 a1_1 a1_2 l1_3 l1_4 (Go.bits .and .i64 a0_0 a1_0) x157001_24 x157002_44 y160 x157004_4) = some (r1, r2, r3, r4, r5) := by (first | (rw [if_neg (show ¬ (false = true) by decide)] at H; exact H) | rfl)
                 clear H
                 have H := H1
                 clear H1
                 have H' := Aside0.mk H
                 clear H
                 have hnb130 := NB156_151.out
                 have hnc130 := NB151_156.out
                 have hnb131 := NB156_152.out
                 have hnc131 := NB152_156.out
                 have hnb132 := NB156_153.out
                 have hnc132 := NB153_156.out
                 have hcz133_0 : wc.cell? ⟨gb156, 0, none⟩ = some (.int .i64 (Go.bits .and .i64 a0_0 a1_0)) := (blk_cell BK156.out 0).trans rfl
                 have hcz133_1 : wc.cell? ⟨gb156, 1, none⟩ = some (.int .i64 x157001_24) := (blk_cell BK156.out 1).trans rfl
                 have hcz133_2 : wc.cell? ⟨gb156, 2, none⟩ = some (.int .i64 x157002_44) := (blk_cell BK156.out 2).trans rfl
                 have hcz133_3 : wc.cell? ⟨gb156, 3, none⟩ = some (u157003) := (blk_cell BK156.out 3).trans rfl
                 have hcz133_4 : wc.cell? ⟨gb156, 4, none⟩ = some (u157004) := (blk_cell BK156.out 4).trans rfl
                 have hfz133_0 := blk_frozen BK156.out 0
                 have hfz133_1 := blk_frozen BK156.out 1
                 have hfz133_2 := blk_frozen BK156.out 2
                 have hfz133_3 := blk_frozen BK156.out 3
                 have hfz133_4 := blk_frozen BK156.out 4
                 go_wp2_with (first | ((with_reducible refine gate_builtin (b := .append) (xs := #[.tmp 74, .tmp 76]) rfl ?_); (try (refine gate_guard (by rfl) ?_; dsimp only)); at_builtin; refine Kd.R_append (Kd.int .i64) (w0 := w) w.heap.size rfl (.tmp 74) (.tmp 76) 22 3 (.int .i64 0) 8 rfl Try.underlying22 info3 rfl (by decide) (by omega) u157003 x157003_4 x6_4 [.int .i64 x6_4] (fun k_ => some k_ ≠ (u157004 : Value).ownBlock) (fun _ => False) rfl rfl ?aP (fun _ hk => hk.elim) ?aF ?aO ?aB ?aS ?aL ?_; (case aP => exact rfl); (case aB => exact HB.out); (case aF => exact (fun k_ hk => Kd.fresh' (Kd.R_lt HO_157004.out) k_ hk)); (case aO => exact HO_157003.out); (case aS => exact (below_size HB.out)); (case aL => have := LMc108.out; omega); intro v161 w134 ho hb hg hat; rw [← Ny160.out] at ho; replace HO_157004 := Aside0.mk (Kd.R_after (ok := (fun _ => True)) (Kd.R_mono HO_157004.out (fun _ hk => ⟨trivial, hk⟩)) hg hat); replace BK151 := Aside0.mk (blk_grown (g := gb151) (o := .cells #[.int .i64 a0_0, .int .i64 a0_1, .int .i64 a0_2, .slice A0_3 l0_3.length c0_3, .slice A0_4 l0_4.length c0_4] 27 (0, 0)) BK151.out hg (Kd.R_ne HO_157003.out BK151.out (by decide))); replace BK152 := Aside0.mk (blk_grown (g := gb152) (o := .cells #[.int .i64 a1_0, .int .i64 a1_1, .int .i64 a1_2, .slice A1_3 l1_3.length c1_3, .slice A1_4 l1_4.length c1_4] 27 (0, 0)) BK152.out hg (Kd.R_ne HO_157003.out BK152.out (by decide))); replace BK153 := Aside0.mk (blk_grown (g := gb153) (o := .cells #[.int .i64 0, .int .i64 0, .int .i64 0, .slice none 0 0, .slice none 0 0] 27 (0, 0)) BK153.out hg (Kd.R_ne HO_157003.out BK153.out (by decide))); replace BK156 := Aside0.mk (blk_grown (g := gb156) (o := .cells #[.int .i64 (Go.bits .and .i64 a0_0 a1_0), .int .i64 x157001_24, .int .i64 x157002_44, u157003, u157004] 27 (0, 0)) BK156.out hg (Kd.R_ne HO_157003.out BK156.out (by decide))); replace HB := Aside0.mk (hb); have HO162 := Aside0.mk (ho); clear HO_157003; clear ho hb hg hat; obtain ⟨Ao135, co135, eo135⟩ := Kd.R_slice HO162.out; subst eo135; have hcz136_0 : w134.cell? ⟨gb156, 0, none⟩ = some (.int .i64 (Go.bits .and .i64 a0_0 a1_0)) := (blk_cell BK156.out 0).trans rfl; have hcz136_1 : w134.cell? ⟨gb156, 1, none⟩ = some (.int .i64 x157001_24) := (blk_cell BK156.out 1).trans rfl; have hcz136_2 : w134.cell? ⟨gb156, 2, none⟩ = some (.int .i64 x157002_44) := (blk_cell BK156.out 2).trans rfl; have hcz136_3 : w134.cell? ⟨gb156, 3, none⟩ = some (u157003) := (blk_cell BK156.out 3).trans rfl; have hcz136_4 : w134.cell? ⟨gb156, 4, none⟩ = some (u157004) := (blk_cell BK156.out 4).trans rfl; have hfz136_0 := blk_frozen BK156.out 0; have hfz136_1 := blk_frozen BK156.out 1; have hfz136_2 := blk_frozen BK156.out 2; have hfz136_3 := blk_frozen BK156.out 3; have hfz136_4 := blk_frozen BK156.out 4) | ((with_reducible refine gate_callee (f := 40) rfl ?_); refine goesL_ (some 82) rfl rfl Try.func40 (by kernel_rfl) rfl #[.int .i64 (Go.bits .and .i64 a0_0 a1_0), .int .i64 x6_4] rfl (by (try simp only [List.map_toArray, List.map_cons, List.map_nil]); first | done | rfl) ?_; (with_reducible refine (spec_l01Week.calls (Go.bits .and .i64 a0_0 a1_0) x6_4 false _ A109.out).mono ?_); rintro e w' ⟨rfl, ⟨nd, rfl⟩⟩; refine ⟨_, rfl, ?_⟩))
                 go_roundg kj95
                 case measure => have := HJ2.out; have := HJ24.out; have := HJ44.out; have := HK4.out; have := HJ73.out; have := HJ95.out; omega
                 case rel => exact ⟨(wrap64 (x6_4 + 1)), (y160), (x157004_4), (.slice Ao135 y160.length co135), (u157004), (by first | rfl | (simp; done) | (simp [*]; done)), H', ⟨by have := HJ2.out; have := HJ24.out; have := HJ44.out; have := HK4.out; have := HJ73.out; have := HJ95.out; omega⟩, ⟨by (with_reducible repeat (first | apply Kd.R_alloc | apply Kd.R_drewN | apply Kd.R_drew)); exact Kd.R_mono (Kd.R_far (p := ⟨gb156, 3, none⟩) (Kd.R_types HO162.out BK156.out (by decide)) (fun _ hk => hk.2) (.slice Ao135 y160.length co135)) (fun _ hk => hk.1)⟩, ⟨by (with_reducible repeat (first | apply Kd.R_alloc | apply Kd.R_drewN | apply Kd.R_drew)); exact Kd.R_mono (Kd.R_far (p := ⟨gb156, 3, none⟩) (Kd.R_types HO_157004.out BK156.out (by decide)) (fun _ hk => hk.2) (.slice Ao135 y160.length co135)) (fun _ hk => hk.1.2)⟩, ⟨by (with_reducible repeat (first | refine blk_drewN ?_ _ | refine blk_drew ?_ | refine blk_alloc ?_ _)); refine blk_far ?_ NB151_156.out _; (with_reducible repeat (first | refine blk_drewN ?_ _ | refine blk_drew ?_ | refine blk_alloc ?_ _)); exact BK151.out⟩, ⟨by (with_reducible repeat (first | refine blk_drewN ?_ _ | refine blk_drew ?_ | refine blk_alloc ?_ _)); refine blk_far ?_ NB152_156.out _; (with_reducible repeat (first | refine blk_drewN ?_ _ | refine blk_drew ?_ | refine blk_alloc ?_ _)); exact BK152.out⟩, ⟨by (with_reducible repeat (first | refine blk_drewN ?_ _ | refine blk_drew ?_ | refine blk_alloc ?_ _)); refine blk_far ?_ NB153_156.out _; (with_reducible repeat (first | refine blk_drewN ?_ _ | refine blk_drew ?_ | refine blk_alloc ?_ _)); exact BK153.out⟩, ⟨by (with_reducible repeat (first | refine blk_drewN ?_ _ | refine blk_drew ?_ | refine blk_alloc ?_ _)); refine blk_put (cs := #[.int .i64 (Go.bits .and .i64 a0_0 a1_0), .int .i64 x157001_24, .int .i64 x157002_44, u157003, u157004]) ?_ 3 _ rfl; (with_reducible repeat (first | refine blk_drewN ?_ _ | refine blk_drew ?_ | refine blk_alloc ?_ _)); exact BK156.out⟩, ⟨by repeat (first | (with_reducible first | exact HB.out | apply below_alloc | apply pw_below_drewN | apply below_drew1 | refine below_set ?_ GE151.out | refine below_set ?_ GE152.out | refine below_set ?_ GE153.out | refine below_set ?_ GE156.out) | exact HB.out)⟩⟩
                subst c118
                rw [if_pos rfl] at H
                by_cases c119 : x157004_4.length < 17592186044416
                rotate_left
                ·rw [if_neg c119] at H
                 exact absurd H (by simp)
                rw [if_pos c119] at H
                have LMc119 := Aside0.mk c119
                clear c119
                obtain ⟨y164, hy164⟩ : ∃ y_ : List Int, y_ = (x157004_4 ++ [x6_4]) := ⟨_, rfl⟩
                replace H : (spec_Both.l0 kj95 (wrap64 (x6_4 + 1)) a0_0 a0_1 a0_2 l0_3 l0_4 a1_0 a1_1 a1_2 l1_3 l1_4 (Go.bits .and .i64 a0_0 a1_0) x157001_24 x157002_44 y160 y164) = some (r1, r2, r3, r4, r5) := by first | (rw [hy164]; with_reducible exact H) | (have H2_ := (Option.bind_some _ _).symm.trans H; rw [hy164]; with_reducible exact H2_) | (have H2_ := (Option.bind_some _ _).symm.trans H; with_reducible exact H2_) | with_reducible exact H | (rw [hy164]; exact H) | exact H
                have Ny164 := Aside0.mk hy164
                clear hy164
                have H' := Aside0.mk H
                clear H
                have hnb120 := NB156_151.out
                have hnc120 := NB151_156.out
                have hnb121 := NB156_152.out
                have hnc121 := NB152_156.out
                have hnb122 := NB156_153.out
                have hnc122 := NB153_156.out
                have hcz123_0 : wc.cell? ⟨gb156, 0, none⟩ = some (.int .i64 (Go.bits .and .i64 a0_0 a1_0)) := (blk_cell BK156.out 0).trans rfl
                have hcz123_1 : wc.cell? ⟨gb156, 1, none⟩ = some (.int .i64 x157001_24) := (blk_cell BK156.out 1).trans rfl
                have hcz123_2 : wc.cell? ⟨gb156, 2, none⟩ = some (.int .i64 x157002_44) := (blk_cell BK156.out 2).trans rfl
                have hcz123_3 : wc.cell? ⟨gb156, 3, none⟩ = some (u157003) := (blk_cell BK156.out 3).trans rfl
                have hcz123_4 : wc.cell? ⟨gb156, 4, none⟩ = some (u157004) := (blk_cell BK156.out 4).trans rfl
                have hfz123_0 := blk_frozen BK156.out 0
                have hfz123_1 := blk_frozen BK156.out 1
                have hfz123_2 := blk_frozen BK156.out 2
                have hfz123_3 := blk_frozen BK156.out 3
                have hfz123_4 := blk_frozen BK156.out 4
                go_wp2_with (first | ((with_reducible refine gate_builtin (b := .append) (xs := #[.tmp 74, .tmp 76]) rfl ?_); (try (refine gate_guard (by rfl) ?_; dsimp only)); at_builtin; refine Kd.R_append (Kd.int .i64) (w0 := w) w.heap.size rfl (.tmp 74) (.tmp 76) 22 3 (.int .i64 0) 8 rfl Try.underlying22 info3 rfl (by decide) (by omega) u157003 x157003_4 x6_4 [.int .i64 x6_4] (fun k_ => some k_ ≠ (u157004 : Value).ownBlock) (fun _ => False) rfl rfl ?aP (fun _ hk => hk.elim) ?aF ?aO ?aB ?aS ?aL ?_; (case aP => exact rfl); (case aB => exact HB.out); (case aF => exact (fun k_ hk => Kd.fresh' (Kd.R_lt HO_157004.out) k_ hk)); (case aO => exact HO_157003.out); (case aS => exact (below_size HB.out)); (case aL => have := LMc108.out; omega); intro v161 w124 ho hb hg hat; rw [← Ny160.out] at ho; replace HO_157004 := Aside0.mk (Kd.R_after (ok := (fun _ => True)) (Kd.R_mono HO_157004.out (fun _ hk => ⟨trivial, hk⟩)) hg hat); replace BK151 := Aside0.mk (blk_grown (g := gb151) (o := .cells #[.int .i64 a0_0, .int .i64 a0_1, .int .i64 a0_2, .slice A0_3 l0_3.length c0_3, .slice A0_4 l0_4.length c0_4] 27 (0, 0)) BK151.out hg (Kd.R_ne HO_157003.out BK151.out (by decide))); replace BK152 := Aside0.mk (blk_grown (g := gb152) (o := .cells #[.int .i64 a1_0, .int .i64 a1_1, .int .i64 a1_2, .slice A1_3 l1_3.length c1_3, .slice A1_4 l1_4.length c1_4] 27 (0, 0)) BK152.out hg (Kd.R_ne HO_157003.out BK152.out (by decide))); replace BK153 := Aside0.mk (blk_grown (g := gb153) (o := .cells #[.int .i64 0, .int .i64 0, .int .i64 0, .slice none 0 0, .slice none 0 0] 27 (0, 0)) BK153.out hg (Kd.R_ne HO_157003.out BK153.out (by decide))); replace BK156 := Aside0.mk (blk_grown (g := gb156) (o := .cells #[.int .i64 (Go.bits .and .i64 a0_0 a1_0), .int .i64 x157001_24, .int .i64 x157002_44, u157003, u157004] 27 (0, 0)) BK156.out hg (Kd.R_ne HO_157003.out BK156.out (by decide))); replace HB := Aside0.mk (hb); have HO162 := Aside0.mk (ho); clear HO_157003; clear ho hb hg hat; obtain ⟨Ao125, co125, eo125⟩ := Kd.R_slice HO162.out; subst eo125; have hcz126_0 : w124.cell? ⟨gb156, 0, none⟩ = some (.int .i64 (Go.bits .and .i64 a0_0 a1_0)) := (blk_cell BK156.out 0).trans rfl; have hcz126_1 : w124.cell? ⟨gb156, 1, none⟩ = some (.int .i64 x157001_24) := (blk_cell BK156.out 1).trans rfl; have hcz126_2 : w124.cell? ⟨gb156, 2, none⟩ = some (.int .i64 x157002_44) := (blk_cell BK156.out 2).trans rfl; have hcz126_3 : w124.cell? ⟨gb156, 3, none⟩ = some (u157003) := (blk_cell BK156.out 3).trans rfl; have hcz126_4 : w124.cell? ⟨gb156, 4, none⟩ = some (u157004) := (blk_cell BK156.out 4).trans rfl; have hfz126_0 := blk_frozen BK156.out 0; have hfz126_1 := blk_frozen BK156.out 1; have hfz126_2 := blk_frozen BK156.out 2; have hfz126_3 := blk_frozen BK156.out 3; have hfz126_4 := blk_frozen BK156.out 4) | ((with_reducible refine gate_callee (f := 40) rfl ?_); refine goesL_ (some 82) rfl rfl Try.func40 (by kernel_rfl) rfl #[.int .i64 (Go.bits .and .i64 a0_0 a1_0), .int .i64 x6_4] rfl (by (try simp only [List.map_toArray, List.map_cons, List.map_nil]); first | done | rfl) ?_; (with_reducible refine (spec_l01Week.calls (Go.bits .and .i64 a0_0 a1_0) x6_4 false _ A109.out).mono ?_); rintro e w' ⟨rfl, ⟨nd, rfl⟩⟩; refine ⟨_, rfl, ?_⟩) | ((with_reducible refine gate_builtin (b := .append) (xs := #[.tmp 88, .tmp 90]) rfl ?_); (try (refine gate_guard (by rfl) ?_; dsimp only)); at_builtin; refine Kd.R_append (Kd.int .i64) (w0 := w) w.heap.size rfl (.tmp 88) (.tmp 90) 22 3 (.int .i64 0) 8 rfl Try.underlying22 info3 rfl (by decide) (by omega) u157004 x157004_4 x6_4 [.int .i64 x6_4] (fun k_ => NbBothx5_ k_ Ao125 y160 co125) (fun _ => False) rfl (by first | (go_simp; done) | (go_simp; rfl)) ?aP (fun _ hk => hk.elim) ?aF ?aO ?aB ?aS ?aL ?_; (case aP => exact rfl); (case aB => exact (by repeat (first | (with_reducible first | exact HB.out | apply below_alloc | apply pw_below_drewN | apply below_drew1 | refine below_set ?_ GE151.out | refine below_set ?_ GE152.out | refine below_set ?_ GE153.out | refine below_set ?_ GE156.out) | exact HB.out))); (case aF => exact (fun k_ hk => Kd.fresh' (Kd.R_lt (by (with_reducible repeat (first | apply Kd.R_alloc | apply Kd.R_drewN | apply Kd.R_drew)); exact (Kd.R_mono (Kd.R_far (p := ⟨gb156, 3, none⟩) (Kd.R_types HO162.out BK156.out (by decide)) (fun _ hk => hk.2) (.slice Ao125 y160.length co125)) (fun _ h_ => h_.1)))) k_ hk)); (case aO => exact (by (with_reducible repeat (first | apply Kd.R_alloc | apply Kd.R_drewN | apply Kd.R_drew)); exact Kd.R_mono (Kd.R_far (p := ⟨gb156, 3, none⟩) (Kd.R_types HO_157004.out BK156.out (by decide)) (fun _ hk => hk.2) (.slice Ao125 y160.length co125)) (fun _ hk => hk.1.2))); (case aS => exact (below_size (by repeat (first | (with_reducible first | exact HB.out | apply below_alloc | apply pw_below_drewN | apply below_drew1 | refine below_set ?_ GE151.out | refine below_set ?_ GE152.out | refine below_set ?_ GE153.out | refine below_set ?_ GE156.out) | exact HB.out)))); (case aL => have := LMc119.out; omega); intro v165 w127 ho hb hg hat; rw [← Ny164.out] at ho; replace BK151 := Aside0.mk (blk_grown (g := gb151) (o := .cells #[.int .i64 a0_0, .int .i64 a0_1, .int .i64 a0_2, .slice A0_3 l0_3.length c0_3, .slice A0_4 l0_4.length c0_4] 27 (0, 0)) (by (with_reducible repeat (first | refine blk_drewN ?_ _ | refine blk_drew ?_ | refine blk_alloc ?_ _)); refine blk_far ?_ NB151_156.out _; (with_reducible repeat (first | refine blk_drewN ?_ _ | refine blk_drew ?_ | refine blk_alloc ?_ _)); exact BK151.out) hg (Kd.R_ne HO_157004.out BK151.out (by decide))); replace BK152 := Aside0.mk (blk_grown (g := gb152) (o := .cells #[.int .i64 a1_0, .int .i64 a1_1, .int .i64 a1_2, .slice A1_3 l1_3.length c1_3, .slice A1_4 l1_4.length c1_4] 27 (0, 0)) (by (with_reducible repeat (first | refine blk_drewN ?_ _ | refine blk_drew ?_ | refine blk_alloc ?_ _)); refine blk_far ?_ NB152_156.out _; (with_reducible repeat (first | refine blk_drewN ?_ _ | refine blk_drew ?_ | refine blk_alloc ?_ _)); exact BK152.out) hg (Kd.R_ne HO_157004.out BK152.out (by decide))); replace BK153 := Aside0.mk (blk_grown (g := gb153) (o := .cells #[.int .i64 0, .int .i64 0, .int .i64 0, .slice none 0 0, .slice none 0 0] 27 (0, 0)) (by (with_reducible repeat (first | refine blk_drewN ?_ _ | refine blk_drew ?_ | refine blk_alloc ?_ _)); refine blk_far ?_ NB153_156.out _; (with_reducible repeat (first | refine blk_drewN ?_ _ | refine blk_drew ?_ | refine blk_alloc ?_ _)); exact BK153.out) hg (Kd.R_ne HO_157004.out BK153.out (by decide))); replace HO162 := Aside0.mk (Kd.R_after (ok := (fun _ => True)) (by (with_reducible repeat (first | apply Kd.R_alloc | apply Kd.R_drewN | apply Kd.R_drew)); exact Kd.R_mono (Kd.R_far (p := ⟨gb156, 3, none⟩) (Kd.R_types HO162.out BK156.out (by decide)) (fun _ hk => hk.2) (.slice Ao125 y160.length co125)) (fun _ hk => ⟨trivial, hk.1⟩)) hg hat); replace BK156 := Aside0.mk (blk_grown (g := gb156) (o := .cells #[.int .i64 (Go.bits .and .i64 a0_0 a1_0), .int .i64 x157001_24, .int .i64 x157002_44, .slice Ao125 y160.length co125, u157004] 27 (0, 0)) (by (with_reducible repeat (first | refine blk_drewN ?_ _ | refine blk_drew ?_ | refine blk_alloc ?_ _)); refine blk_put (cs := #[.int .i64 (Go.bits .and .i64 a0_0 a1_0), .int .i64 x157001_24, .int .i64 x157002_44, u157003, u157004]) ?_ 3 _ rfl; (with_reducible repeat (first | refine blk_drewN ?_ _ | refine blk_drew ?_ | refine blk_alloc ?_ _)); exact BK156.out) hg (Kd.R_ne HO_157004.out BK156.out (by decide))); replace HB := Aside0.mk (hb); have HO166 := Aside0.mk (ho); clear HO_157004; clear ho hb hg hat; obtain ⟨Ao128, co128, eo128⟩ := Kd.R_slice HO166.out; subst eo128; have hcz129_0 : w127.cell? ⟨gb156, 0, none⟩ = some (.int .i64 (Go.bits .and .i64 a0_0 a1_0)) := (blk_cell BK156.out 0).trans rfl; have hcz129_1 : w127.cell? ⟨gb156, 1, none⟩ = some (.int .i64 x157001_24) := (blk_cell BK156.out 1).trans rfl; have hcz129_2 : w127.cell? ⟨gb156, 2, none⟩ = some (.int .i64 x157002_44) := (blk_cell BK156.out 2).trans rfl; have hcz129_3 : w127.cell? ⟨gb156, 3, none⟩ = some (.slice Ao125 y160.length co125) := (blk_cell BK156.out 3).trans rfl; have hcz129_4 : w127.cell? ⟨gb156, 4, none⟩ = some (u157004) := (blk_cell BK156.out 4).trans rfl; have hfz129_0 := blk_frozen BK156.out 0; have hfz129_1 := blk_frozen BK156.out 1; have hfz129_2 := blk_frozen BK156.out 2; have hfz129_3 := blk_frozen BK156.out 3; have hfz129_4 := blk_frozen BK156.out 4))
                go_roundg kj95
                case measure => have := HJ2.out; have := HJ24.out; have := HJ44.out; have := HK4.out; have := HJ73.out; have := HJ95.out; omega
                case rel => exact ⟨(wrap64 (x6_4 + 1)), (y160), (y164), (.slice Ao125 y160.length co125), (.slice Ao128 y164.length co128), (by first | rfl | (simp; done) | (simp [*]; done)), H', ⟨by have := HJ2.out; have := HJ24.out; have := HJ44.out; have := HK4.out; have := HJ73.out; have := HJ95.out; omega⟩, ⟨by (with_reducible repeat (first | apply Kd.R_alloc | apply Kd.R_drewN | apply Kd.R_drew)); exact Kd.R_mono (Kd.R_far (p := ⟨gb156, 4, none⟩) (Kd.R_types HO162.out BK156.out (by decide)) (fun _ hk => hk.2) (.slice Ao128 y164.length co128)) (fun _ hk => hk.1.2)⟩, ⟨by (with_reducible repeat (first | apply Kd.R_alloc | apply Kd.R_drewN | apply Kd.R_drew)); exact Kd.R_mono (Kd.R_far (p := ⟨gb156, 4, none⟩) (Kd.R_types HO166.out BK156.out (by decide)) (fun _ hk => hk.2) (.slice Ao128 y164.length co128)) (fun _ hk => hk.1)⟩, ⟨by (with_reducible repeat (first | refine blk_drewN ?_ _ | refine blk_drew ?_ | refine blk_alloc ?_ _)); refine blk_far ?_ NB151_156.out _; (with_reducible repeat (first | refine blk_drewN ?_ _ | refine blk_drew ?_ | refine blk_alloc ?_ _)); exact BK151.out⟩, ⟨by (with_reducible repeat (first | refine blk_drewN ?_ _ | refine blk_drew ?_ | refine blk_alloc ?_ _)); refine blk_far ?_ NB152_156.out _; (with_reducible repeat (first | refine blk_drewN ?_ _ | refine blk_drew ?_ | refine blk_alloc ?_ _)); exact BK152.out⟩, ⟨by (with_reducible repeat (first | refine blk_drewN ?_ _ | refine blk_drew ?_ | refine blk_alloc ?_ _)); refine blk_far ?_ NB153_156.out _; (with_reducible repeat (first | refine blk_drewN ?_ _ | refine blk_drew ?_ | refine blk_alloc ?_ _)); exact BK153.out⟩, ⟨by (with_reducible repeat (first | refine blk_drewN ?_ _ | refine blk_drew ?_ | refine blk_alloc ?_ _)); refine blk_put (cs := #[.int .i64 (Go.bits .and .i64 a0_0 a1_0), .int .i64 x157001_24, .int .i64 x157002_44, .slice Ao125 y160.length co125, u157004]) ?_ 4 _ rfl; (with_reducible repeat (first | refine blk_drewN ?_ _ | refine blk_drew ?_ | refine blk_alloc ?_ _)); exact BK156.out⟩, ⟨by repeat (first | (with_reducible first | exact HB.out | apply below_alloc | apply pw_below_drewN | apply below_drew1 | refine below_set ?_ GE151.out | refine below_set ?_ GE152.out | refine below_set ?_ GE153.out | refine below_set ?_ GE156.out) | exact HB.out)⟩⟩
               subst c110
               rw [if_pos rfl] at H
               have H' := Aside0.mk H
               clear H
               have hnb111 := NB156_151.out
               have hnc111 := NB151_156.out
               have hnb112 := NB156_152.out
               have hnc112 := NB152_156.out
               have hnb113 := NB156_153.out
               have hnc113 := NB153_156.out
               have hcz114_0 : wc.cell? ⟨gb156, 0, none⟩ = some (.int .i64 (Go.bits .and .i64 a0_0 a1_0)) := (blk_cell BK156.out 0).trans rfl
               have hcz114_1 : wc.cell? ⟨gb156, 1, none⟩ = some (.int .i64 x157001_24) := (blk_cell BK156.out 1).trans rfl
               have hcz114_2 : wc.cell? ⟨gb156, 2, none⟩ = some (.int .i64 x157002_44) := (blk_cell BK156.out 2).trans rfl
               have hcz114_3 : wc.cell? ⟨gb156, 3, none⟩ = some (u157003) := (blk_cell BK156.out 3).trans rfl
               have hcz114_4 : wc.cell? ⟨gb156, 4, none⟩ = some (u157004) := (blk_cell BK156.out 4).trans rfl
               have hfz114_0 := blk_frozen BK156.out 0
               have hfz114_1 := blk_frozen BK156.out 1
               have hfz114_2 := blk_frozen BK156.out 2
               have hfz114_3 := blk_frozen BK156.out 3
               have hfz114_4 := blk_frozen BK156.out 4
               go_wp2_with (first | ((with_reducible refine gate_builtin (b := .append) (xs := #[.tmp 74, .tmp 76]) rfl ?_); (try (refine gate_guard (by rfl) ?_; dsimp only)); at_builtin; refine Kd.R_append (Kd.int .i64) (w0 := w) w.heap.size rfl (.tmp 74) (.tmp 76) 22 3 (.int .i64 0) 8 rfl Try.underlying22 info3 rfl (by decide) (by omega) u157003 x157003_4 x6_4 [.int .i64 x6_4] (fun k_ => some k_ ≠ (u157004 : Value).ownBlock) (fun _ => False) rfl rfl ?aP (fun _ hk => hk.elim) ?aF ?aO ?aB ?aS ?aL ?_; (case aP => exact rfl); (case aB => exact HB.out); (case aF => exact (fun k_ hk => Kd.fresh' (Kd.R_lt HO_157004.out) k_ hk)); (case aO => exact HO_157003.out); (case aS => exact (below_size HB.out)); (case aL => have := LMc108.out; omega); intro v161 w115 ho hb hg hat; rw [← Ny160.out] at ho; replace HO_157004 := Aside0.mk (Kd.R_after (ok := (fun _ => True)) (Kd.R_mono HO_157004.out (fun _ hk => ⟨trivial, hk⟩)) hg hat); replace BK151 := Aside0.mk (blk_grown (g := gb151) (o := .cells #[.int .i64 a0_0, .int .i64 a0_1, .int .i64 a0_2, .slice A0_3 l0_3.length c0_3, .slice A0_4 l0_4.length c0_4] 27 (0, 0)) BK151.out hg (Kd.R_ne HO_157003.out BK151.out (by decide))); replace BK152 := Aside0.mk (blk_grown (g := gb152) (o := .cells #[.int .i64 a1_0, .int .i64 a1_1, .int .i64 a1_2, .slice A1_3 l1_3.length c1_3, .slice A1_4 l1_4.length c1_4] 27 (0, 0)) BK152.out hg (Kd.R_ne HO_157003.out BK152.out (by decide))); replace BK153 := Aside0.mk (blk_grown (g := gb153) (o := .cells #[.int .i64 0, .int .i64 0, .int .i64 0, .slice none 0 0, .slice none 0 0] 27 (0, 0)) BK153.out hg (Kd.R_ne HO_157003.out BK153.out (by decide))); replace BK156 := Aside0.mk (blk_grown (g := gb156) (o := .cells #[.int .i64 (Go.bits .and .i64 a0_0 a1_0), .int .i64 x157001_24, .int .i64 x157002_44, u157003, u157004] 27 (0, 0)) BK156.out hg (Kd.R_ne HO_157003.out BK156.out (by decide))); replace HB := Aside0.mk (hb); have HO162 := Aside0.mk (ho); clear HO_157003; clear ho hb hg hat; obtain ⟨Ao116, co116, eo116⟩ := Kd.R_slice HO162.out; subst eo116; have hcz117_0 : w115.cell? ⟨gb156, 0, none⟩ = some (.int .i64 (Go.bits .and .i64 a0_0 a1_0)) := (blk_cell BK156.out 0).trans rfl; have hcz117_1 : w115.cell? ⟨gb156, 1, none⟩ = some (.int .i64 x157001_24) := (blk_cell BK156.out 1).trans rfl; have hcz117_2 : w115.cell? ⟨gb156, 2, none⟩ = some (.int .i64 x157002_44) := (blk_cell BK156.out 2).trans rfl; have hcz117_3 : w115.cell? ⟨gb156, 3, none⟩ = some (u157003) := (blk_cell BK156.out 3).trans rfl; have hcz117_4 : w115.cell? ⟨gb156, 4, none⟩ = some (u157004) := (blk_cell BK156.out 4).trans rfl; have hfz117_0 := blk_frozen BK156.out 0; have hfz117_1 := blk_frozen BK156.out 1; have hfz117_2 := blk_frozen BK156.out 2; have hfz117_3 := blk_frozen BK156.out 3; have hfz117_4 := blk_frozen BK156.out 4) | ((with_reducible refine gate_callee (f := 40) rfl ?_); refine goesL_ (some 82) rfl rfl Try.func40 (by kernel_rfl) rfl #[.int .i64 (Go.bits .and .i64 a0_0 a1_0), .int .i64 x6_4] rfl (by (try simp only [List.map_toArray, List.map_cons, List.map_nil]); first | done | rfl) ?_; (with_reducible refine (spec_l01Week.calls (Go.bits .and .i64 a0_0 a1_0) x6_4 true _ A109.out).mono ?_); rintro e w' ⟨rfl, ⟨nd, rfl⟩⟩; refine ⟨_, rfl, ?_⟩))
               go_roundg kj95
               case measure => have := HJ2.out; have := HJ24.out; have := HJ44.out; have := HK4.out; have := HJ73.out; have := HJ95.out; omega
               case rel => exact ⟨(wrap64 (x6_4 + 1)), (y160), (x157004_4), (.slice Ao116 y160.length co116), (u157004), (by first | rfl | (simp; done) | (simp [*]; done)), H', ⟨by have := HJ2.out; have := HJ24.out; have := HJ44.out; have := HK4.out; have := HJ73.out; have := HJ95.out; omega⟩, ⟨by (with_reducible repeat (first | apply Kd.R_alloc | apply Kd.R_drewN | apply Kd.R_drew)); exact Kd.R_mono (Kd.R_far (p := ⟨gb156, 3, none⟩) (Kd.R_types HO162.out BK156.out (by decide)) (fun _ hk => hk.2) (.slice Ao116 y160.length co116)) (fun _ hk => hk.1)⟩, ⟨by (with_reducible repeat (first | apply Kd.R_alloc | apply Kd.R_drewN | apply Kd.R_drew)); exact Kd.R_mono (Kd.R_far (p := ⟨gb156, 3, none⟩) (Kd.R_types HO_157004.out BK156.out (by decide)) (fun _ hk => hk.2) (.slice Ao116 y160.length co116)) (fun _ hk => hk.1.2)⟩, ⟨by (with_reducible repeat (first | refine blk_drewN ?_ _ | refine blk_drew ?_ | refine blk_alloc ?_ _)); refine blk_far ?_ NB151_156.out _; (with_reducible repeat (first | refine blk_drewN ?_ _ | refine blk_drew ?_ | refine blk_alloc ?_ _)); exact BK151.out⟩, ⟨by (with_reducible repeat (first | refine blk_drewN ?_ _ | refine blk_drew ?_ | refine blk_alloc ?_ _)); refine blk_far ?_ NB152_156.out _; (with_reducible repeat (first | refine blk_drewN ?_ _ | refine blk_drew ?_ | refine blk_alloc ?_ _)); exact BK152.out⟩, ⟨by (with_reducible repeat (first | refine blk_drewN ?_ _ | refine blk_drew ?_ | refine blk_alloc ?_ _)); refine blk_far ?_ NB153_156.out _; (with_reducible repeat (first | refine blk_drewN ?_ _ | refine blk_drew ?_ | refine blk_alloc ?_ _)); exact BK153.out⟩, ⟨by (with_reducible repeat (first | refine blk_drewN ?_ _ | refine blk_drew ?_ | refine blk_alloc ?_ _)); refine blk_put (cs := #[.int .i64 (Go.bits .and .i64 a0_0 a1_0), .int .i64 x157001_24, .int .i64 x157002_44, u157003, u157004]) ?_ 3 _ rfl; (with_reducible repeat (first | refine blk_drewN ?_ _ | refine blk_drew ?_ | refine blk_alloc ?_ _)); exact BK156.out⟩, ⟨by repeat (first | (with_reducible first | exact HB.out | apply below_alloc | apply pw_below_drewN | apply below_drew1 | refine below_set ?_ GE151.out | refine below_set ?_ GE152.out | refine below_set ?_ GE153.out | refine below_set ?_ GE156.out) | exact HB.out)⟩⟩
        rw [if_pos c61] at H
        have c61b0 : decide (x157002_44 < x157001_24) = true := decide_eq_true c61
        clear c61
        simp only [Option.some.injEq, Prod.mk.injEq] at H
        obtain ⟨rfl, rfl, rfl, rfl, rfl⟩ := H
        have hnb62 := NB156_151.out
        have hnc62 := NB151_156.out
        have hnb63 := NB156_152.out
        have hnc63 := NB152_156.out
        have hnb64 := NB156_153.out
        have hnc64 := NB153_156.out
        have hcz65_0 : wc.cell? ⟨gb156, 0, none⟩ = some (.int .i64 (Go.bits .and .i64 a0_0 a1_0)) := (blk_cell BK156.out 0).trans rfl
        have hcz65_1 : wc.cell? ⟨gb156, 1, none⟩ = some (.int .i64 x157001_24) := (blk_cell BK156.out 1).trans rfl
        have hcz65_2 : wc.cell? ⟨gb156, 2, none⟩ = some (.int .i64 x157002_44) := (blk_cell BK156.out 2).trans rfl
        have hcz65_3 : wc.cell? ⟨gb156, 3, none⟩ = some (.slice none 0 0) := (blk_cell BK156.out 3).trans rfl
        have hcz65_4 : wc.cell? ⟨gb156, 4, none⟩ = some (.slice none 0 0) := (blk_cell BK156.out 4).trans rfl
        have hfz65_0 := blk_frozen BK156.out 0
        have hfz65_1 := blk_frozen BK156.out 1
        have hfz65_2 := blk_frozen BK156.out 2
        have hfz65_3 := blk_frozen BK156.out 3
        have hfz65_4 := blk_frozen BK156.out 4
        have hnb66 := NB153_151.out
        have hnc66 := NB151_153.out
        have hnb67 := NB153_152.out
        have hnc67 := NB152_153.out
        have hcz68_0 : wc.cell? ⟨gb153, 0, none⟩ = some (.int .i64 0) := (blk_cell BK153.out 0).trans rfl
        have hcz68_1 : wc.cell? ⟨gb153, 1, none⟩ = some (.int .i64 0) := (blk_cell BK153.out 1).trans rfl
        have hcz68_2 : wc.cell? ⟨gb153, 2, none⟩ = some (.int .i64 0) := (blk_cell BK153.out 2).trans rfl
        have hcz68_3 : wc.cell? ⟨gb153, 3, none⟩ = some (.slice none 0 0) := (blk_cell BK153.out 3).trans rfl
        have hcz68_4 : wc.cell? ⟨gb153, 4, none⟩ = some (.slice none 0 0) := (blk_cell BK153.out 4).trans rfl
        have hfz68_0 := blk_frozen BK153.out 0
        have hfz68_1 := blk_frozen BK153.out 1
        have hfz68_2 := blk_frozen BK153.out 2
        have hfz68_3 := blk_frozen BK153.out 3
        have hfz68_4 := blk_frozen BK153.out 4
        go_wp2
        refine bodyPost_ret (results_cell_row rfl _ _ gb153 27 #[.int .i64 0, .int .i64 0, .int .i64 0, .slice none 0 0, .slice none 0 0] (0, 0) _ rfl (by (with_reducible repeat (first | refine blk_drewN ?_ _ | refine blk_drew ?_ | refine blk_alloc ?_ _)); refine blk_put (cs := #[.int .i64 0, .int .i64 0, .int .i64 0, .slice none 0 0, .slice none 0 0]) ?_ 4 _ rfl; (with_reducible repeat (first | refine blk_drewN ?_ _ | refine blk_drew ?_ | refine blk_alloc ?_ _)); refine blk_put (cs := #[.int .i64 0, .int .i64 0, .int .i64 0, .slice none 0 0, .slice none 0 0]) ?_ 3 _ rfl; (with_reducible repeat (first | refine blk_drewN ?_ _ | refine blk_drew ?_ | refine blk_alloc ?_ _)); refine blk_put (cs := #[.int .i64 0, .int .i64 0, .int .i64 0, .slice none 0 0, .slice none 0 0]) ?_ 2 _ rfl; (with_reducible repeat (first | refine blk_drewN ?_ _ | refine blk_drew ?_ | refine blk_alloc ?_ _)); refine blk_put (cs := #[.int .i64 0, .int .i64 0, .int .i64 0, .slice none 0 0, .slice none 0 0]) ?_ 1 _ rfl; (with_reducible repeat (first | refine blk_drewN ?_ _ | refine blk_drew ?_ | refine blk_alloc ?_ _)); refine blk_put (cs := #[.int .i64 0, .int .i64 0, .int .i64 0, .slice none 0 0, .slice none 0 0]) ?_ 0 _ rfl; (with_reducible repeat (first | refine blk_drewN ?_ _ | refine blk_drew ?_ | refine blk_alloc ?_ _)); exact BK153.out) Try.underlying27 rfl (by kernel_rfl)) rfl ?_
        exact ⟨_, _, by first | rfl | (simp [errW_none, errW_some] <;> rfl) | (simp [*, errW_none, errW_some] <;> rfl), by first | exact Kd.R_nil _ _ _ _ _ | exact Kd.N_nil _ _ _ _ _ | exact Kd.V_nil _ _ _ _ _ | exact Kd.Q_nil _ _ _ _ _ | exact Kd.S_nil _ _ _ _ _, by first | exact Kd.R_nil _ _ _ _ _ | exact Kd.N_nil _ _ _ _ _ | exact Kd.V_nil _ _ _ _ _ | exact Kd.Q_nil _ _ _ _ _ | exact Kd.S_nil _ _ _ _ _, by repeat (first | (with_reducible first | exact HB.out | apply below_alloc | apply pw_below_drewN | apply below_drew1 | refine below_set ?_ GE151.out | refine below_set ?_ GE152.out | refine below_set ?_ GE153.out | refine below_set ?_ GE156.out) | exact HB.out)⟩
   subst c21
   rw [if_pos rfl] at H
   simp only [Option.some.injEq, Prod.mk.injEq] at H
   obtain ⟨rfl, rfl, rfl, rfl, rfl⟩ := H
   have hnb22 := NB153_151.out
   have hnc22 := NB151_153.out
   have hnb23 := NB153_152.out
   have hnc23 := NB152_153.out
   have hcz24_0 : wc.cell? ⟨gb153, 0, none⟩ = some (.int .i64 0) := (blk_cell BK153.out 0).trans rfl
   have hcz24_1 : wc.cell? ⟨gb153, 1, none⟩ = some (.int .i64 0) := (blk_cell BK153.out 1).trans rfl
   have hcz24_2 : wc.cell? ⟨gb153, 2, none⟩ = some (.int .i64 0) := (blk_cell BK153.out 2).trans rfl
   have hcz24_3 : wc.cell? ⟨gb153, 3, none⟩ = some (.slice none 0 0) := (blk_cell BK153.out 3).trans rfl
   have hcz24_4 : wc.cell? ⟨gb153, 4, none⟩ = some (.slice none 0 0) := (blk_cell BK153.out 4).trans rfl
   have hfz24_0 := blk_frozen BK153.out 0
   have hfz24_1 := blk_frozen BK153.out 1
   have hfz24_2 := blk_frozen BK153.out 2
   have hfz24_3 := blk_frozen BK153.out 3
   have hfz24_4 := blk_frozen BK153.out 4
   go_wp2
   refine bodyPost_ret (results_cell_row rfl _ _ gb153 27 #[.int .i64 0, .int .i64 0, .int .i64 0, .slice none 0 0, .slice none 0 0] (0, 0) _ rfl (by (with_reducible repeat (first | refine blk_drewN ?_ _ | refine blk_drew ?_ | refine blk_alloc ?_ _)); refine blk_put (cs := #[.int .i64 0, .int .i64 0, .int .i64 0, .slice none 0 0, .slice none 0 0]) ?_ 4 _ rfl; (with_reducible repeat (first | refine blk_drewN ?_ _ | refine blk_drew ?_ | refine blk_alloc ?_ _)); refine blk_put (cs := #[.int .i64 0, .int .i64 0, .int .i64 0, .slice none 0 0, .slice none 0 0]) ?_ 3 _ rfl; (with_reducible repeat (first | refine blk_drewN ?_ _ | refine blk_drew ?_ | refine blk_alloc ?_ _)); refine blk_put (cs := #[.int .i64 0, .int .i64 0, .int .i64 0, .slice none 0 0, .slice none 0 0]) ?_ 2 _ rfl; (with_reducible repeat (first | refine blk_drewN ?_ _ | refine blk_drew ?_ | refine blk_alloc ?_ _)); refine blk_put (cs := #[.int .i64 0, .int .i64 0, .int .i64 0, .slice none 0 0, .slice none 0 0]) ?_ 1 _ rfl; (with_reducible repeat (first | refine blk_drewN ?_ _ | refine blk_drew ?_ | refine blk_alloc ?_ _)); refine blk_put (cs := #[.int .i64 0, .int .i64 0, .int .i64 0, .slice none 0 0, .slice none 0 0]) ?_ 0 _ rfl; (with_reducible repeat (first | refine blk_drewN ?_ _ | refine blk_drew ?_ | refine blk_alloc ?_ _)); exact BK153.out) Try.underlying27 rfl (by kernel_rfl)) rfl ?_
   exact ⟨_, _, by first | rfl | (simp [errW_none, errW_some] <;> rfl) | (simp [*, errW_none, errW_some] <;> rfl), by first | exact Kd.R_nil _ _ _ _ _ | exact Kd.N_nil _ _ _ _ _ | exact Kd.V_nil _ _ _ _ _ | exact Kd.Q_nil _ _ _ _ _ | exact Kd.S_nil _ _ _ _ _, by first | exact Kd.R_nil _ _ _ _ _ | exact Kd.N_nil _ _ _ _ _ | exact Kd.V_nil _ _ _ _ _ | exact Kd.Q_nil _ _ _ _ _ | exact Kd.S_nil _ _ _ _ _, by repeat (first | (with_reducible first | exact HB.out | apply below_alloc | apply pw_below_drewN | apply below_drew1 | refine below_set ?_ GE151.out | refine below_set ?_ GE152.out | refine below_set ?_ GE153.out) | exact HB.out)⟩
end Go.Proofs.Ytgjhlkjfdlkndaa.PFnBoth
