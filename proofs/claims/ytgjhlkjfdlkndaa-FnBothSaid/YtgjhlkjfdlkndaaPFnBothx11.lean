-- Written by a program of this session (wip/tools/fltprint.py: the kit's printer, taught more).
import Derived.Test.YtgjhlkjfdlkndaaPFnBothx0
import Derived.Test.YtgjhlkjfdlkndaaPFnBothx1
import Derived.Test.YtgjhlkjfdlkndaaPFnBothx2
import Derived.Test.YtgjhlkjfdlkndaaPFnBothx5
import Derived.Test.YtgjhlkjfdlkndaaPFnBothx6
import Derived.Test.YtgjhlkjfdlkndaaPFnBothx10
namespace Go.Proofs.Ytgjhlkjfdlkndaa.PFnBoth
open Go.RowKit Go.Proofs.YtgjhlkjfdlkndaaW.PrintWords Go.Proofs.YtgjhlkjfdlkndaaW.PrintLast Go.Proofs.YtgjhlkjfdlkndaaW.PrintMore
attribute [local go_sem] max2_int min2_int max_two min_two max_three min_three max_four min_four   -- for this text's walks alone
set_option linter.unusedVariables false
set_option linter.unusedSimpArgs false
abbrev Nbothx11_ {α : Type} (k : Nat) (A : Option Addr) (l : List α) (c : Nat) : Prop := some k ≠ (Value.slice A l.length c).ownBlock
abbrev Nvothx11_ (k : Nat) (v : Value) : Prop := some k ≠ v.ownBlock
theorem pmothx11_0 {a0 a1 a2 a3 a4 a5 : Prop} (hk : ((((a0 ∧ (a1 ∧ a2)) ∧ a3) ∧ a4) ∧ a5)) : (a0 ∧ (a1 ∧ (a2 ∧ (a3 ∧ a4)))) := ⟨hk.1.1.1.1, ⟨hk.1.1.1.2.1, ⟨hk.1.1.1.2.2, ⟨hk.1.1.2, hk.1.2⟩⟩⟩⟩
theorem pmothx11_1 {a0 a1 a2 a3 a4 a5 a6 : Prop} (hk : (((a0 ∧ (a1 ∧ (a2 ∧ (a3 ∧ a4)))) ∧ a5) ∧ a6)) : (a0 ∧ (a1 ∧ (a2 ∧ (a3 ∧ a4)))) := ⟨hk.1.1.1, ⟨hk.1.1.2.1, ⟨hk.1.1.2.2.1, ⟨hk.1.1.2.2.2.1, hk.1.1.2.2.2.2⟩⟩⟩⟩

/-! ### laws_FnBoth: function 10 -/
mutual
def laws_FnBoth.j0 : Nat → Bool → Int → Int → Int → List Int → List Int → Int → Int → Int → List Int → List Int → Int → Int → Int → List Int → List Int → Option (Bool)
 | 0, _, _, _, _, _, _, _, _, _, _, _, _, _, _, _, _ => none
 | k + 1, x32, x337000, x337001, x337002, x337003, x337004, x338000, x338001, x338002, x338003, x338004, x348000, x348001, x348002, x348003, x348004 => if x32 = true then ((impl_Runs.f k x348000 x348001 x348002 x348003 x348004).bind fun t358 => (if t358 = 0 then (some true) else (some (x348001 == 0)))) else (laws_FnBoth.l0 k 0 x348001 x337000 x337001 x337002 x337003 x337004 x338000 x338001 x338002 x338003 x338004 x348000 x348001 x348002 x348003 x348004)
def laws_FnBoth.l0 : Nat → Int → Int → Int → Int → Int → List Int → List Int → Int → Int → Int → List Int → List Int → Int → Int → Int → List Int → List Int → Option (Bool)
 | 0, _, _, _, _, _, _, _, _, _, _, _, _, _, _, _, _, _ => none
 | k + 1, x6, x7, x337000, x337001, x337002, x337003, x337004, x338000, x338001, x338002, x338003, x338004, x348000, x348001, x348002, x348003, x348004 => if x7 ≤ x348002 then ((impl_RunsOn.f k x337000 x337001 x337002 x337003 x337004 x7).bind fun t362 => (if t362 = true then ((impl_RunsOn.f k x338000 x338001 x338002 x338003 x338004 x7).bind fun t363 => (laws_FnBoth.j2 k x6 x7 t363 x337000 x337001 x337002 x337003 x337004 x338000 x338001 x338002 x338003 x338004 x348000 x348001 x348002 x348003 x348004)) else (laws_FnBoth.j2 k x6 x7 false x337000 x337001 x337002 x337003 x337004 x338000 x338001 x338002 x338003 x338004 x348000 x348001 x348002 x348003 x348004))) else ((impl_Runs.f k x348000 x348001 x348002 x348003 x348004).bind fun t359 => (if t359 = x6 then ((impl_RunsOn.f k x348000 x348001 x348002 x348003 x348004 (wrap64 (x348001 - 1))).bind fun t360 => (if t360 = true then (some false) else ((impl_RunsOn.f k x348000 x348001 x348002 x348003 x348004 (wrap64 (x348002 + 1))).bind fun t361 => (some (!t361))))) else (some false)))
def laws_FnBoth.j2 : Nat → Int → Int → Bool → Int → Int → Int → List Int → List Int → Int → Int → Int → List Int → List Int → Int → Int → Int → List Int → List Int → Option (Bool)
 | 0, _, _, _, _, _, _, _, _, _, _, _, _, _, _, _, _, _, _ => none
 | k + 1, x6, x7, x8, x337000, x337001, x337002, x337003, x337004, x338000, x338001, x338002, x338003, x338004, x348000, x348001, x348002, x348003, x348004 => (impl_RunsOn.f k x348000 x348001 x348002 x348003 x348004 x7).bind fun t364 => (if (t364 != x8) = true then (some false) else (if x8 = true then (laws_FnBoth.l0 k (wrap64 (x6 + 1)) (wrap64 (x7 + 1)) x337000 x337001 x337002 x337003 x337004 x338000 x338001 x338002 x338003 x338004 x348000 x348001 x348002 x348003 x348004) else (laws_FnBoth.l0 k x6 (wrap64 (x7 + 1)) x337000 x337001 x337002 x337003 x337004 x338000 x338001 x338002 x338003 x338004 x348000 x348001 x348002 x348003 x348004)))
end
def laws_FnBoth.f (k : Nat) (l0 : List Int) : Option (Bool) := (laws_big.f l0).bind fun t317 => (if t317 = true then (some true) else ((spec_DrawBoth.f k l0).bind fun bt318 => ((impl_Both.f k bt318.1 bt318.2.1 bt318.2.2.1 bt318.2.2.2.1 bt318.2.2.2.2.1 bt318.2.2.2.2.2.1 bt318.2.2.2.2.2.2.1 bt318.2.2.2.2.2.2.2.1 bt318.2.2.2.2.2.2.2.2.1 bt318.2.2.2.2.2.2.2.2.2).bind fun bt338 => ((spec_Both.f k bt318.1 bt318.2.1 bt318.2.2.1 bt318.2.2.2.1 bt318.2.2.2.2.1 bt318.2.2.2.2.2.1 bt318.2.2.2.2.2.2.1 bt318.2.2.2.2.2.2.2.1 bt318.2.2.2.2.2.2.2.2.1 bt318.2.2.2.2.2.2.2.2.2).bind fun bt348 => ((laws_samePattern.f k bt338.1 bt338.2.1 bt338.2.2.1 bt338.2.2.2.1 bt338.2.2.2.2 bt348.1 bt348.2.1 bt348.2.2.1 bt348.2.2.2.1 bt348.2.2.2.2).bind fun t357 => (if t357 = true then (if bt338.2.2.1 = 0 then (laws_FnBoth.j0 k (bt338.1 == 0) bt318.1 bt318.2.1 bt318.2.2.1 bt318.2.2.2.1 bt318.2.2.2.2.1 bt318.2.2.2.2.2.1 bt318.2.2.2.2.2.2.1 bt318.2.2.2.2.2.2.2.1 bt318.2.2.2.2.2.2.2.2.1 bt318.2.2.2.2.2.2.2.2.2 bt338.1 bt338.2.1 bt338.2.2.1 bt338.2.2.2.1 bt338.2.2.2.2) else (laws_FnBoth.j0 k false bt318.1 bt318.2.1 bt318.2.2.1 bt318.2.2.2.1 bt318.2.2.2.2.1 bt318.2.2.2.2.2.1 bt318.2.2.2.2.2.2.1 bt318.2.2.2.2.2.2.2.1 bt318.2.2.2.2.2.2.2.2.1 bt318.2.2.2.2.2.2.2.2.2 bt338.1 bt338.2.1 bt338.2.2.1 bt338.2.2.2.1 bt338.2.2.2.2)) else (some false)))))))
theorem laws_FnBoth.mono_l : ∀ k, (∀ y0 y1 y2 y3 y4 y5 y6 y7 y8 y9 y10 y11 y12 y13 y14 y15, LeO (laws_FnBoth.j0 k y0 y1 y2 y3 y4 y5 y6 y7 y8 y9 y10 y11 y12 y13 y14 y15) (laws_FnBoth.j0 (k + 1) y0 y1 y2 y3 y4 y5 y6 y7 y8 y9 y10 y11 y12 y13 y14 y15)) ∧ (∀ y0 y1 y2 y3 y4 y5 y6 y7 y8 y9 y10 y11 y12 y13 y14 y15 y16, LeO (laws_FnBoth.l0 k y0 y1 y2 y3 y4 y5 y6 y7 y8 y9 y10 y11 y12 y13 y14 y15 y16) (laws_FnBoth.l0 (k + 1) y0 y1 y2 y3 y4 y5 y6 y7 y8 y9 y10 y11 y12 y13 y14 y15 y16)) ∧ (∀ y0 y1 y2 y3 y4 y5 y6 y7 y8 y9 y10 y11 y12 y13 y14 y15 y16 y17, LeO (laws_FnBoth.j2 k y0 y1 y2 y3 y4 y5 y6 y7 y8 y9 y10 y11 y12 y13 y14 y15 y16 y17) (laws_FnBoth.j2 (k + 1) y0 y1 y2 y3 y4 y5 y6 y7 y8 y9 y10 y11 y12 y13 y14 y15 y16 y17))
 | 0 => ⟨fun _ _ _ _ _ _ _ _ _ _ _ _ _ _ _ _ r h => by simp [laws_FnBoth.j0] at h, fun _ _ _ _ _ _ _ _ _ _ _ _ _ _ _ _ _ r h => by simp [laws_FnBoth.l0] at h, fun _ _ _ _ _ _ _ _ _ _ _ _ _ _ _ _ _ _ r h => by simp [laws_FnBoth.j2] at h⟩
 | k + 1 => by
  obtain ⟨ih0, ih1, ih2⟩ := laws_FnBoth.mono_l k
  refine ⟨?_, ?_, ?_⟩
  ·intro y0 y1 y2 y3 y4 y5 y6 y7 y8 y9 y10 y11 y12 y13 y14 y15
   unfold laws_FnBoth.j0
   repeat' first
   | (with_reducible exact ih0 _ _ _ _ _ _ _ _ _ _ _ _ _ _ _ _)
   | (with_reducible exact ih1 _ _ _ _ _ _ _ _ _ _ _ _ _ _ _ _ _)
   | (with_reducible exact ih2 _ _ _ _ _ _ _ _ _ _ _ _ _ _ _ _ _ _)
   | (with_reducible exact impl_Both.mono _ _ _ _ _ _ _ _ _ _ _)
   | (with_reducible exact impl_Runs.mono _ _ _ _ _ _)
   | (with_reducible exact impl_RunsOn.mono _ _ _ _ _ _ _)
   | (with_reducible exact laws_samePattern.mono _ _ _ _ _ _ _ _ _ _ _)
   | (with_reducible exact spec_Both.mono _ _ _ _ _ _ _ _ _ _ _)
   | (with_reducible exact spec_DrawBoth.mono _ _)
   | (with_reducible exact LeO.refl _)
   | (with_reducible exact LeO.none _)
   | (with_reducible refine LeO.ite ?_ ?_)
   | (with_reducible refine LeO.bind ?_ (fun _ => ?_))
   | exact ih0 _ _ _ _ _ _ _ _ _ _ _ _ _ _ _ _
   | exact ih1 _ _ _ _ _ _ _ _ _ _ _ _ _ _ _ _ _
   | exact ih2 _ _ _ _ _ _ _ _ _ _ _ _ _ _ _ _ _ _
   | exact impl_Both.mono _ _ _ _ _ _ _ _ _ _ _
   | exact impl_Runs.mono _ _ _ _ _ _
   | exact impl_RunsOn.mono _ _ _ _ _ _ _
   | exact laws_samePattern.mono _ _ _ _ _ _ _ _ _ _ _
   | exact spec_Both.mono _ _ _ _ _ _ _ _ _ _ _
   | exact spec_DrawBoth.mono _ _
   | exact LeO.none _
   | refine LeO.ite ?_ ?_
   | refine LeO.bind ?_ (fun _ => ?_)
  ·intro y0 y1 y2 y3 y4 y5 y6 y7 y8 y9 y10 y11 y12 y13 y14 y15 y16
   unfold laws_FnBoth.l0
   repeat' first
   | (with_reducible exact ih0 _ _ _ _ _ _ _ _ _ _ _ _ _ _ _ _)
   | (with_reducible exact ih1 _ _ _ _ _ _ _ _ _ _ _ _ _ _ _ _ _)
   | (with_reducible exact ih2 _ _ _ _ _ _ _ _ _ _ _ _ _ _ _ _ _ _)
   | (with_reducible exact impl_Both.mono _ _ _ _ _ _ _ _ _ _ _)
   | (with_reducible exact impl_Runs.mono _ _ _ _ _ _)
   | (with_reducible exact impl_RunsOn.mono _ _ _ _ _ _ _)
   | (with_reducible exact laws_samePattern.mono _ _ _ _ _ _ _ _ _ _ _)
   | (with_reducible exact spec_Both.mono _ _ _ _ _ _ _ _ _ _ _)
   | (with_reducible exact spec_DrawBoth.mono _ _)
   | (with_reducible exact LeO.refl _)
   | (with_reducible exact LeO.none _)
   | (with_reducible refine LeO.ite ?_ ?_)
   | (with_reducible refine LeO.bind ?_ (fun _ => ?_))
   | exact ih0 _ _ _ _ _ _ _ _ _ _ _ _ _ _ _ _
   | exact ih1 _ _ _ _ _ _ _ _ _ _ _ _ _ _ _ _ _
   | exact ih2 _ _ _ _ _ _ _ _ _ _ _ _ _ _ _ _ _ _
   | exact impl_Both.mono _ _ _ _ _ _ _ _ _ _ _
   | exact impl_Runs.mono _ _ _ _ _ _
   | exact impl_RunsOn.mono _ _ _ _ _ _ _
   | exact laws_samePattern.mono _ _ _ _ _ _ _ _ _ _ _
   | exact spec_Both.mono _ _ _ _ _ _ _ _ _ _ _
   | exact spec_DrawBoth.mono _ _
   | exact LeO.none _
   | refine LeO.ite ?_ ?_
   | refine LeO.bind ?_ (fun _ => ?_)
  ·intro y0 y1 y2 y3 y4 y5 y6 y7 y8 y9 y10 y11 y12 y13 y14 y15 y16 y17
   unfold laws_FnBoth.j2
   repeat' first
   | (with_reducible exact ih0 _ _ _ _ _ _ _ _ _ _ _ _ _ _ _ _)
   | (with_reducible exact ih1 _ _ _ _ _ _ _ _ _ _ _ _ _ _ _ _ _)
   | (with_reducible exact ih2 _ _ _ _ _ _ _ _ _ _ _ _ _ _ _ _ _ _)
   | (with_reducible exact impl_Both.mono _ _ _ _ _ _ _ _ _ _ _)
   | (with_reducible exact impl_Runs.mono _ _ _ _ _ _)
   | (with_reducible exact impl_RunsOn.mono _ _ _ _ _ _ _)
   | (with_reducible exact laws_samePattern.mono _ _ _ _ _ _ _ _ _ _ _)
   | (with_reducible exact spec_Both.mono _ _ _ _ _ _ _ _ _ _ _)
   | (with_reducible exact spec_DrawBoth.mono _ _)
   | (with_reducible exact LeO.refl _)
   | (with_reducible exact LeO.none _)
   | (with_reducible refine LeO.ite ?_ ?_)
   | (with_reducible refine LeO.bind ?_ (fun _ => ?_))
   | exact ih0 _ _ _ _ _ _ _ _ _ _ _ _ _ _ _ _
   | exact ih1 _ _ _ _ _ _ _ _ _ _ _ _ _ _ _ _ _
   | exact ih2 _ _ _ _ _ _ _ _ _ _ _ _ _ _ _ _ _ _
   | exact impl_Both.mono _ _ _ _ _ _ _ _ _ _ _
   | exact impl_Runs.mono _ _ _ _ _ _
   | exact impl_RunsOn.mono _ _ _ _ _ _ _
   | exact laws_samePattern.mono _ _ _ _ _ _ _ _ _ _ _
   | exact spec_Both.mono _ _ _ _ _ _ _ _ _ _ _
   | exact spec_DrawBoth.mono _ _
   | exact LeO.none _
   | refine LeO.ite ?_ ?_
   | refine LeO.bind ?_ (fun _ => ?_)
theorem laws_FnBoth.mono : ∀ a0 k, LeO (laws_FnBoth.f k a0) (laws_FnBoth.f (k + 1) a0) := by
 intro a0 k
 obtain ⟨ih0, ih1, ih2⟩ := laws_FnBoth.mono_l k
 unfold laws_FnBoth.f
 repeat' first
   | (with_reducible exact ih0 _ _ _ _ _ _ _ _ _ _ _ _ _ _ _ _)
   | (with_reducible exact ih1 _ _ _ _ _ _ _ _ _ _ _ _ _ _ _ _ _)
   | (with_reducible exact ih2 _ _ _ _ _ _ _ _ _ _ _ _ _ _ _ _ _ _)
   | (with_reducible exact impl_Both.mono _ _ _ _ _ _ _ _ _ _ _)
   | (with_reducible exact impl_Runs.mono _ _ _ _ _ _)
   | (with_reducible exact impl_RunsOn.mono _ _ _ _ _ _ _)
   | (with_reducible exact laws_samePattern.mono _ _ _ _ _ _ _ _ _ _ _)
   | (with_reducible exact spec_Both.mono _ _ _ _ _ _ _ _ _ _ _)
   | (with_reducible exact spec_DrawBoth.mono _ _)
   | (with_reducible exact LeO.refl _)
   | (with_reducible exact LeO.none _)
   | (with_reducible refine LeO.ite ?_ ?_)
   | (with_reducible refine LeO.bind ?_ (fun _ => ?_))
   | exact ih0 _ _ _ _ _ _ _ _ _ _ _ _ _ _ _ _
   | exact ih1 _ _ _ _ _ _ _ _ _ _ _ _ _ _ _ _ _
   | exact ih2 _ _ _ _ _ _ _ _ _ _ _ _ _ _ _ _ _ _
   | exact impl_Both.mono _ _ _ _ _ _ _ _ _ _ _
   | exact impl_Runs.mono _ _ _ _ _ _
   | exact impl_RunsOn.mono _ _ _ _ _ _ _
   | exact laws_samePattern.mono _ _ _ _ _ _ _ _ _ _ _
   | exact spec_Both.mono _ _ _ _ _ _ _ _ _ _ _
   | exact spec_DrawBoth.mono _ _
   | exact LeO.none _
   | refine LeO.ite ?_ ?_
   | refine LeO.bind ?_ (fun _ => ?_)
set_option maxHeartbeats 8000000 in
set_option maxRecDepth 100000 in
theorem laws_FnBoth.calls (k : Nat) (A0 : Option Addr) (c0 : Nat) (l0 : List Int) (w : World) (hr0 : Kd.C (Kd.int .u8) w A0 l0.length l0) (hc0 : l0.length ≤ c0) (h : laws_FnBoth.f k l0 = some true) :
  Calls Try.prog 10 #[.slice A0 l0.length c0] w fun e w' => e = .returned (.bool true) ∧ Below w.heap.size w w' := by
 have hu27 := Try.underlying27
 have HR0 := Aside0.mk hr0
 have HC0 := Aside0.mk hc0
 clear hr0 hc0
 have HB := Aside0.mk (Below.refl w.heap.size w)
 have H := h
 clear h
 unfold laws_FnBoth.f at H
 replace H := Option.bind_eq_some_iff.mp H
 obtain ⟨t317, A20, H⟩ := H
 try dsimp only at H
 have A2 := Aside0.mk A20
 clear A20
 by_cases c3 : t317 = true
 rotate_left
 ·replace c3 := Bool.eq_false_iff.mpr c3
  subst c3
  have H1 : ((spec_DrawBoth.f k l0).bind fun bt318 => ((impl_Both.f k bt318.1 bt318.2.1 bt318.2.2.1 bt318.2.2.2.1 bt318.2.2.2.2.1 bt318.2.2.2.2.2.1 bt318.2.2.2.2.2.2.1 bt318.2.2.2.2.2.2.2.1 bt318.2.2.2.2.2.2.2.2.1 bt318.2.2.2.2.2.2.2.2.2).bind fun bt338 => ((spec_Both.f k bt318.1 bt318.2.1 bt318.2.2.1 bt318.2.2.2.1 bt318.2.2.2.2.1 bt318.2.2.2.2.2.1 bt318.2.2.2.2.2.2.1 bt318.2.2.2.2.2.2.2.1 bt318.2.2.2.2.2.2.2.2.1 bt318.2.2.2.2.2.2.2.2.2).bind fun bt348 => ((laws_samePattern.f k bt338.1 bt338.2.1 bt338.2.2.1 bt338.2.2.2.1 bt338.2.2.2.2 bt348.1 bt348.2.1 bt348.2.2.1 bt348.2.2.2.1 bt348.2.2.2.2).bind fun t357 => (if t357 = true then (if bt338.2.2.1 = 0 then (laws_FnBoth.j0 k (bt338.1 == 0) bt318.1 bt318.2.1 bt318.2.2.1 bt318.2.2.2.1 bt318.2.2.2.2.1 bt318.2.2.2.2.2.1 bt318.2.2.2.2.2.2.1 bt318.2.2.2.2.2.2.2.1 bt318.2.2.2.2.2.2.2.2.1 bt318.2.2.2.2.2.2.2.2.2 bt338.1 bt338.2.1 bt338.2.2.1 bt338.2.2.2.1 bt338.2.2.2.2) else (laws_FnBoth.j0 k false bt318.1 bt318.2.1 bt318.2.2.1 bt318.2.2.2.1 bt318.2.2.2.2.1 bt318.2.2.2.2.2.1 bt318.2.2.2.2.2.2.1 bt318.2.2.2.2.2.2.2.1 bt318.2.2.2.2.2.2.2.2.1 bt318.2.2.2.2.2.2.2.2.2 bt338.1 bt338.2.1 bt338.2.2.1 bt338.2.2.2.1 bt338.2.2.2.2)) else (some false)))))) = some true := by (first | (rw [if_neg (show ¬ (false = true) by decide)] at H; exact H) | rfl)
  clear H
  have H := H1
  clear H1
  replace H := Option.bind_eq_some_iff.mp H
  obtain ⟨⟨t318, t319, t320, t321, t324, t327, t328, t329, t330, t333⟩, A40, H⟩ := H
  try dsimp only at H
  have A4 := Aside0.mk A40
  clear A40
  replace H := Option.bind_eq_some_iff.mp H
  obtain ⟨⟨t338, t339, t340, t341, t344⟩, A50, H⟩ := H
  try dsimp only at H
  have A5 := Aside0.mk A50
  clear A50
  replace H := Option.bind_eq_some_iff.mp H
  obtain ⟨⟨t348, t349, t350, t351, t354⟩, A60, H⟩ := H
  try dsimp only at H
  have A6 := Aside0.mk A60
  clear A60
  replace H := Option.bind_eq_some_iff.mp H
  obtain ⟨t357, A70, H⟩ := H
  try dsimp only at H
  have A7 := Aside0.mk A70
  clear A70
  by_cases c8 : t357 = true
  rotate_left
  ·replace c8 := Bool.eq_false_iff.mpr c8
   subst c8
   rw [if_neg (by decide)] at H
   exact absurd (Option.some.inj H) (by decide)

  subst c8
  rw [if_pos rfl] at H
  have HC9 := Aside0.mk H
  clear H
  go_enter Try.func10, Try.ntmps10
  try go_wp2_with (first | ((with_reducible refine gate_callee (f := 26) rfl ?_); refine goesL_ (some 10) rfl rfl Try.func26 (by kernel_rfl) rfl #[.slice A0 l0.length c0] rfl (by (try simp only [List.map_toArray, List.map_cons, List.map_nil]); first | done | rfl) ?_; (with_reducible refine (laws_big.calls _ _ l0 false _ ?side1 ?side2 A2.out).mono ?_); (case side1 => exact HR0.out); (case side2 => exact HC0.out); rintro e w' ⟨rfl, ⟨nd, rfl⟩⟩; refine ⟨_, rfl, ?_⟩) | ((with_reducible refine gate_callee (f := 32) rfl ?_); refine goesL_ (some 13) rfl rfl Try.func32 (by kernel_rfl) rfl #[.slice A0 l0.length c0] rfl (by (try simp only [List.map_toArray, List.map_cons, List.map_nil]); first | done | rfl) ?_; (with_reducible refine (spec_DrawBoth.calls k _ _ l0 t318 t319 t320 t321 t324 t327 t328 t329 t330 t333 _ ?side1 ?side2 A4.out).mono ?_); (case side1 => repeat (first | exact HR0.out | (with_reducible refine Kd.C_alloc ?_ _) | (with_reducible refine Kd.C_drewN ?_ _) | (with_reducible refine Kd.C_drew ?_))); (case side2 => exact HC0.out); rintro e w10 ⟨v322, v325, v331, v334, rfl, ho0, ho1, ho2, ho3, hb⟩; refine ⟨_, rfl, ?_⟩; have cs1_ := below_size (by repeat (first | (with_reducible first | exact HB.out | apply below_alloc | apply pw_below_drewN | apply below_drew1) | exact HB.out)); have HO323 := Aside0.mk (Kd.R_lower ho0 cs1_); have HO326 := Aside0.mk (Kd.R_lower ho1 cs1_); have HO332 := Aside0.mk (Kd.R_lower ho2 cs1_); have HO335 := Aside0.mk (Kd.R_lower ho3 cs1_); replace HB := Aside0.mk (below_step (by repeat (first | (with_reducible first | exact HB.out | apply below_alloc | apply pw_below_drewN | apply below_drew1) | exact HB.out)) hb); clear cs1_; (try clear hb); (try clear hb2); (try clear hk); (try clear hi); (try clear ho0); (try clear ho1); (try clear ho2); (try clear ho3)) | ((with_reducible refine gate_dst (N := 3) rfl ?_); refine box_event ?hg (N := 3) ?hd (cs := #[.int .i64 0, .int .i64 0, .int .i64 0, .slice none 0 0, .slice none 0 0]) (t := 27) ?hr ?_; (case hd => rfl); (case hg => rfl); (case hr => first | (go_simp; done) | (go_simp; rfl)); intro gb336 hg w11 hbox hb; replace HO323 := Aside0.mk (Kd.R_below HO323.out hb); replace HO326 := Aside0.mk (Kd.R_below HO326.out hb); replace HO332 := Aside0.mk (Kd.R_below HO332.out hb); replace HO335 := Aside0.mk (Kd.R_below HO335.out hb); have BK336 := Aside0.mk (hbox); have GW336 := Aside0.mk ((by rw [hg]; exact (below_size HB.out) : w.heap.size ≤ gb336)); have GE336 := Aside0.mk ((by rw [hg]; exact (below_size HB.out) : w.heap.size ≤ gb336)); replace HB := Aside0.mk (below_step HB.out hb); clear hb hbox hg) | ((with_reducible refine gate_dst (N := 4) rfl ?_); refine box_event ?hg (N := 4) ?hd (cs := #[.int .i64 0, .int .i64 0, .int .i64 0, .slice none 0 0, .slice none 0 0]) (t := 27) ?hr ?_; (case hd => rfl); (case hg => rfl); (case hr => first | (go_simp; done) | (go_simp; rfl)); intro gb337 hg w12 hbox hb; replace HO323 := Aside0.mk (Kd.R_below HO323.out hb); replace HO326 := Aside0.mk (Kd.R_below HO326.out hb); replace HO332 := Aside0.mk (Kd.R_below HO332.out hb); replace HO335 := Aside0.mk (Kd.R_below HO335.out hb); have BK337 := Aside0.mk (hbox); have GW337 := Aside0.mk ((by rw [hg]; exact (below_size HB.out) : w.heap.size ≤ gb337)); have GE337 := Aside0.mk ((by rw [hg]; exact (below_size HB.out) : w.heap.size ≤ gb337)); replace HB := Aside0.mk (below_step HB.out hb); have NB336_337 := Aside0.mk ((by rw [hg]; exact Nat.ne_of_lt (blk_lt BK336.out) : gb336 ≠ gb337)); have NB337_336 := Aside0.mk ((by rw [hg]; exact Nat.ne_of_gt (blk_lt BK336.out) : gb337 ≠ gb336)); replace BK336 := Aside0.mk (blk_below BK336.out hb); clear hb hbox hg; have hnb13 := NB336_337.out; have hnc13 := NB337_336.out; have hcz14_0 : w12.cell? ⟨gb336, 0, none⟩ = some (.int .i64 0) := (blk_cell BK336.out 0).trans rfl; have hcz14_1 : w12.cell? ⟨gb336, 1, none⟩ = some (.int .i64 0) := (blk_cell BK336.out 1).trans rfl; have hcz14_2 : w12.cell? ⟨gb336, 2, none⟩ = some (.int .i64 0) := (blk_cell BK336.out 2).trans rfl; have hcz14_3 : w12.cell? ⟨gb336, 3, none⟩ = some (.slice none 0 0) := (blk_cell BK336.out 3).trans rfl; have hcz14_4 : w12.cell? ⟨gb336, 4, none⟩ = some (.slice none 0 0) := (blk_cell BK336.out 4).trans rfl; have hfz14_0 := blk_frozen BK336.out 0; have hfz14_1 := blk_frozen BK336.out 1; have hfz14_2 := blk_frozen BK336.out 2; have hfz14_3 := blk_frozen BK336.out 3; have hfz14_4 := blk_frozen BK336.out 4; obtain ⟨Ao15, co15, eo15⟩ := Kd.R_slice HO323.out; subst eo15; obtain ⟨Ao16, co16, eo16⟩ := Kd.R_slice HO326.out; subst eo16; have hcz17_0 : w12.cell? ⟨gb337, 0, none⟩ = some (.int .i64 0) := (blk_cell BK337.out 0).trans rfl; have hcz17_1 : w12.cell? ⟨gb337, 1, none⟩ = some (.int .i64 0) := (blk_cell BK337.out 1).trans rfl; have hcz17_2 : w12.cell? ⟨gb337, 2, none⟩ = some (.int .i64 0) := (blk_cell BK337.out 2).trans rfl; have hcz17_3 : w12.cell? ⟨gb337, 3, none⟩ = some (.slice none 0 0) := (blk_cell BK337.out 3).trans rfl; have hcz17_4 : w12.cell? ⟨gb337, 4, none⟩ = some (.slice none 0 0) := (blk_cell BK337.out 4).trans rfl; have hfz17_0 := blk_frozen BK337.out 0; have hfz17_1 := blk_frozen BK337.out 1; have hfz17_2 := blk_frozen BK337.out 2; have hfz17_3 := blk_frozen BK337.out 3; have hfz17_4 := blk_frozen BK337.out 4; obtain ⟨Ao18, co18, eo18⟩ := Kd.R_slice HO332.out; subst eo18; obtain ⟨Ao19, co19, eo19⟩ := Kd.R_slice HO335.out; subst eo19) | ((with_reducible refine gate_callee (f := 31) rfl ?_); refine goesL_ (some 18) rfl rfl Try.func31 (by kernel_rfl) rfl #[.agg #[.int .i64 t318, .int .i64 t319, .int .i64 t320, .slice Ao15 t321.length co15, .slice Ao16 t324.length co16], .agg #[.int .i64 t327, .int .i64 t328, .int .i64 t329, .slice Ao18 t330.length co18, .slice Ao19 t333.length co19]] rfl (by (try simp only [List.map_toArray, List.map_cons, List.map_nil]); first | done | rfl) ?_; (with_reducible refine (impl_Both.calls k t318 t319 t320 _ _ t321 _ _ t324 t327 t328 t329 _ _ t330 _ _ t333 t338 t339 t340 t341 t344 _ ?side1 ?side2 ?side3 ?side4 ?side5 ?side6 ?side7 ?side8 A5.out).mono ?_); (case side1 => refine (Kd.R_reads' (e := 3) (base := w.heap.size) (ok := fun k_ => (Nbothx11_ k_ Ao16 t324 co16 ∧ (Nbothx11_ k_ Ao18 t330 co18 ∧ Nbothx11_ k_ Ao19 t333 co19))) (n := t321.length) (c := co15) ?_).2.2; exact (Kd.R_mono (Kd.R_mono (Kd.R_far (p := ⟨gb337, 4, none⟩) (Kd.R_far (p := ⟨gb337, 3, none⟩) (Kd.R_far (p := ⟨gb337, 2, none⟩) (Kd.R_far (p := ⟨gb337, 1, none⟩) (Kd.R_far (p := ⟨gb337, 0, none⟩) (Kd.R_far (p := ⟨gb336, 4, none⟩) (Kd.R_far (p := ⟨gb336, 3, none⟩) (Kd.R_far (p := ⟨gb336, 2, none⟩) (Kd.R_far (p := ⟨gb336, 1, none⟩) (Kd.R_far (p := ⟨gb336, 0, none⟩) (Kd.R_types (Kd.R_types HO323.out BK336.out (by decide)) BK337.out (by decide)) (fun _ hk => hk.1.2) (.int .i64 t318)) (fun _ hk => hk.1.2) (.int .i64 t319)) (fun _ hk => hk.1.2) (.int .i64 t320)) (fun _ hk => hk.1.2) (.slice Ao15 t321.length co15)) (fun _ hk => hk.1.2) (.slice Ao16 t324.length co16)) (fun _ hk => hk.2) (.int .i64 t327)) (fun _ hk => hk.2) (.int .i64 t328)) (fun _ hk => hk.2) (.int .i64 t329)) (fun _ hk => hk.2) (.slice Ao18 t330.length co18)) (fun _ hk => hk.2) (.slice Ao19 t333.length co19)) (fun _ h_ => h_.1)) (fun _ h_ => h_.1))); (case side2 => exact (Kd.R_reads' HO323.out).2.1); (case side3 => refine (Kd.R_reads' (e := 3) (base := w.heap.size) (ok := fun k_ => (Nbothx11_ k_ Ao15 t321 co15 ∧ (Nbothx11_ k_ Ao18 t330 co18 ∧ Nbothx11_ k_ Ao19 t333 co19))) (n := t324.length) (c := co16) ?_).2.2; exact (Kd.R_mono (Kd.R_mono (Kd.R_far (p := ⟨gb337, 4, none⟩) (Kd.R_far (p := ⟨gb337, 3, none⟩) (Kd.R_far (p := ⟨gb337, 2, none⟩) (Kd.R_far (p := ⟨gb337, 1, none⟩) (Kd.R_far (p := ⟨gb337, 0, none⟩) (Kd.R_far (p := ⟨gb336, 4, none⟩) (Kd.R_far (p := ⟨gb336, 3, none⟩) (Kd.R_far (p := ⟨gb336, 2, none⟩) (Kd.R_far (p := ⟨gb336, 1, none⟩) (Kd.R_far (p := ⟨gb336, 0, none⟩) (Kd.R_types (Kd.R_types HO326.out BK336.out (by decide)) BK337.out (by decide)) (fun _ hk => hk.1.2) (.int .i64 t318)) (fun _ hk => hk.1.2) (.int .i64 t319)) (fun _ hk => hk.1.2) (.int .i64 t320)) (fun _ hk => hk.1.2) (.slice Ao15 t321.length co15)) (fun _ hk => hk.1.2) (.slice Ao16 t324.length co16)) (fun _ hk => hk.2) (.int .i64 t327)) (fun _ hk => hk.2) (.int .i64 t328)) (fun _ hk => hk.2) (.int .i64 t329)) (fun _ hk => hk.2) (.slice Ao18 t330.length co18)) (fun _ hk => hk.2) (.slice Ao19 t333.length co19)) (fun _ h_ => h_.1)) (fun _ h_ => h_.1))); (case side4 => exact (Kd.R_reads' HO326.out).2.1); (case side5 => refine (Kd.R_reads' (e := 3) (base := w.heap.size) (ok := fun k_ => (Nbothx11_ k_ Ao15 t321 co15 ∧ (Nbothx11_ k_ Ao16 t324 co16 ∧ Nbothx11_ k_ Ao19 t333 co19))) (n := t330.length) (c := co18) ?_).2.2; exact (Kd.R_mono (Kd.R_mono (Kd.R_far (p := ⟨gb337, 4, none⟩) (Kd.R_far (p := ⟨gb337, 3, none⟩) (Kd.R_far (p := ⟨gb337, 2, none⟩) (Kd.R_far (p := ⟨gb337, 1, none⟩) (Kd.R_far (p := ⟨gb337, 0, none⟩) (Kd.R_far (p := ⟨gb336, 4, none⟩) (Kd.R_far (p := ⟨gb336, 3, none⟩) (Kd.R_far (p := ⟨gb336, 2, none⟩) (Kd.R_far (p := ⟨gb336, 1, none⟩) (Kd.R_far (p := ⟨gb336, 0, none⟩) (Kd.R_types (Kd.R_types HO332.out BK336.out (by decide)) BK337.out (by decide)) (fun _ hk => hk.1.2) (.int .i64 t318)) (fun _ hk => hk.1.2) (.int .i64 t319)) (fun _ hk => hk.1.2) (.int .i64 t320)) (fun _ hk => hk.1.2) (.slice Ao15 t321.length co15)) (fun _ hk => hk.1.2) (.slice Ao16 t324.length co16)) (fun _ hk => hk.2) (.int .i64 t327)) (fun _ hk => hk.2) (.int .i64 t328)) (fun _ hk => hk.2) (.int .i64 t329)) (fun _ hk => hk.2) (.slice Ao18 t330.length co18)) (fun _ hk => hk.2) (.slice Ao19 t333.length co19)) (fun _ h_ => h_.1)) (fun _ h_ => h_.1))); (case side6 => exact (Kd.R_reads' HO332.out).2.1); (case side7 => refine (Kd.R_reads' (e := 3) (base := w.heap.size) (ok := fun k_ => (Nbothx11_ k_ Ao15 t321 co15 ∧ (Nbothx11_ k_ Ao16 t324 co16 ∧ Nbothx11_ k_ Ao18 t330 co18))) (n := t333.length) (c := co19) ?_).2.2; exact (Kd.R_mono (Kd.R_mono (Kd.R_far (p := ⟨gb337, 4, none⟩) (Kd.R_far (p := ⟨gb337, 3, none⟩) (Kd.R_far (p := ⟨gb337, 2, none⟩) (Kd.R_far (p := ⟨gb337, 1, none⟩) (Kd.R_far (p := ⟨gb337, 0, none⟩) (Kd.R_far (p := ⟨gb336, 4, none⟩) (Kd.R_far (p := ⟨gb336, 3, none⟩) (Kd.R_far (p := ⟨gb336, 2, none⟩) (Kd.R_far (p := ⟨gb336, 1, none⟩) (Kd.R_far (p := ⟨gb336, 0, none⟩) (Kd.R_types (Kd.R_types HO335.out BK336.out (by decide)) BK337.out (by decide)) (fun _ hk => hk.1.2) (.int .i64 t318)) (fun _ hk => hk.1.2) (.int .i64 t319)) (fun _ hk => hk.1.2) (.int .i64 t320)) (fun _ hk => hk.1.2) (.slice Ao15 t321.length co15)) (fun _ hk => hk.1.2) (.slice Ao16 t324.length co16)) (fun _ hk => hk.2) (.int .i64 t327)) (fun _ hk => hk.2) (.int .i64 t328)) (fun _ hk => hk.2) (.int .i64 t329)) (fun _ hk => hk.2) (.slice Ao18 t330.length co18)) (fun _ hk => hk.2) (.slice Ao19 t333.length co19)) (fun _ h_ => h_.1)) (fun _ h_ => h_.1))); (case side8 => exact (Kd.R_reads' HO335.out).2.1); rintro e w20 ⟨v342, v345, rfl, ho0, ho1, hb⟩; refine ⟨_, rfl, ?_⟩; have cs2_ := Kd.R_mono (Kd.R_mono (Kd.R_far (p := ⟨gb337, 4, none⟩) (Kd.R_far (p := ⟨gb337, 3, none⟩) (Kd.R_far (p := ⟨gb337, 2, none⟩) (Kd.R_far (p := ⟨gb337, 1, none⟩) (Kd.R_far (p := ⟨gb337, 0, none⟩) (Kd.R_far (p := ⟨gb336, 4, none⟩) (Kd.R_far (p := ⟨gb336, 3, none⟩) (Kd.R_far (p := ⟨gb336, 2, none⟩) (Kd.R_far (p := ⟨gb336, 1, none⟩) (Kd.R_far (p := ⟨gb336, 0, none⟩) (Kd.R_types (Kd.R_types HO323.out BK336.out (by decide)) BK337.out (by decide)) (fun _ hk => hk.1.2) (.int .i64 t318)) (fun _ hk => hk.1.2) (.int .i64 t319)) (fun _ hk => hk.1.2) (.int .i64 t320)) (fun _ hk => hk.1.2) (.slice Ao15 t321.length co15)) (fun _ hk => hk.1.2) (.slice Ao16 t324.length co16)) (fun _ hk => hk.2) (.int .i64 t327)) (fun _ hk => hk.2) (.int .i64 t328)) (fun _ hk => hk.2) (.int .i64 t329)) (fun _ hk => hk.2) (.slice Ao18 t330.length co18)) (fun _ hk => hk.2) (.slice Ao19 t333.length co19)) (fun _ h_ => h_.1)) (fun _ h_ => h_.1); have cs3_ := Kd.R_mono (Kd.R_mono (Kd.R_far (p := ⟨gb337, 4, none⟩) (Kd.R_far (p := ⟨gb337, 3, none⟩) (Kd.R_far (p := ⟨gb337, 2, none⟩) (Kd.R_far (p := ⟨gb337, 1, none⟩) (Kd.R_far (p := ⟨gb337, 0, none⟩) (Kd.R_far (p := ⟨gb336, 4, none⟩) (Kd.R_far (p := ⟨gb336, 3, none⟩) (Kd.R_far (p := ⟨gb336, 2, none⟩) (Kd.R_far (p := ⟨gb336, 1, none⟩) (Kd.R_far (p := ⟨gb336, 0, none⟩) (Kd.R_types (Kd.R_types HO326.out BK336.out (by decide)) BK337.out (by decide)) (fun _ hk => hk.1.2) (.int .i64 t318)) (fun _ hk => hk.1.2) (.int .i64 t319)) (fun _ hk => hk.1.2) (.int .i64 t320)) (fun _ hk => hk.1.2) (.slice Ao15 t321.length co15)) (fun _ hk => hk.1.2) (.slice Ao16 t324.length co16)) (fun _ hk => hk.2) (.int .i64 t327)) (fun _ hk => hk.2) (.int .i64 t328)) (fun _ hk => hk.2) (.int .i64 t329)) (fun _ hk => hk.2) (.slice Ao18 t330.length co18)) (fun _ hk => hk.2) (.slice Ao19 t333.length co19)) (fun _ h_ => h_.1)) (fun _ h_ => h_.1); have cs4_ := Kd.R_mono (Kd.R_mono (Kd.R_far (p := ⟨gb337, 4, none⟩) (Kd.R_far (p := ⟨gb337, 3, none⟩) (Kd.R_far (p := ⟨gb337, 2, none⟩) (Kd.R_far (p := ⟨gb337, 1, none⟩) (Kd.R_far (p := ⟨gb337, 0, none⟩) (Kd.R_far (p := ⟨gb336, 4, none⟩) (Kd.R_far (p := ⟨gb336, 3, none⟩) (Kd.R_far (p := ⟨gb336, 2, none⟩) (Kd.R_far (p := ⟨gb336, 1, none⟩) (Kd.R_far (p := ⟨gb336, 0, none⟩) (Kd.R_types (Kd.R_types HO332.out BK336.out (by decide)) BK337.out (by decide)) (fun _ hk => hk.1.2) (.int .i64 t318)) (fun _ hk => hk.1.2) (.int .i64 t319)) (fun _ hk => hk.1.2) (.int .i64 t320)) (fun _ hk => hk.1.2) (.slice Ao15 t321.length co15)) (fun _ hk => hk.1.2) (.slice Ao16 t324.length co16)) (fun _ hk => hk.2) (.int .i64 t327)) (fun _ hk => hk.2) (.int .i64 t328)) (fun _ hk => hk.2) (.int .i64 t329)) (fun _ hk => hk.2) (.slice Ao18 t330.length co18)) (fun _ hk => hk.2) (.slice Ao19 t333.length co19)) (fun _ h_ => h_.1)) (fun _ h_ => h_.1); have cs5_ := Kd.R_mono (Kd.R_mono (Kd.R_far (p := ⟨gb337, 4, none⟩) (Kd.R_far (p := ⟨gb337, 3, none⟩) (Kd.R_far (p := ⟨gb337, 2, none⟩) (Kd.R_far (p := ⟨gb337, 1, none⟩) (Kd.R_far (p := ⟨gb337, 0, none⟩) (Kd.R_far (p := ⟨gb336, 4, none⟩) (Kd.R_far (p := ⟨gb336, 3, none⟩) (Kd.R_far (p := ⟨gb336, 2, none⟩) (Kd.R_far (p := ⟨gb336, 1, none⟩) (Kd.R_far (p := ⟨gb336, 0, none⟩) (Kd.R_types (Kd.R_types HO335.out BK336.out (by decide)) BK337.out (by decide)) (fun _ hk => hk.1.2) (.int .i64 t318)) (fun _ hk => hk.1.2) (.int .i64 t319)) (fun _ hk => hk.1.2) (.int .i64 t320)) (fun _ hk => hk.1.2) (.slice Ao15 t321.length co15)) (fun _ hk => hk.1.2) (.slice Ao16 t324.length co16)) (fun _ hk => hk.2) (.int .i64 t327)) (fun _ hk => hk.2) (.int .i64 t328)) (fun _ hk => hk.2) (.int .i64 t329)) (fun _ hk => hk.2) (.slice Ao18 t330.length co18)) (fun _ hk => hk.2) (.slice Ao19 t333.length co19)) (fun _ h_ => h_.1)) (fun _ h_ => h_.1); replace HO323 := Aside0.mk (Kd.R_mono (Kd.R_told (Kd.R_told (Kd.R_old cs2_ hb) (Kd.R_base ho0)) (Kd.R_base ho1)) (fun _ h_ => h_.1)); replace HO326 := Aside0.mk (Kd.R_mono (Kd.R_told (Kd.R_told (Kd.R_old cs3_ hb) (Kd.R_base ho0)) (Kd.R_base ho1)) (fun _ h_ => h_.1)); replace HO332 := Aside0.mk (Kd.R_mono (Kd.R_told (Kd.R_told (Kd.R_old cs4_ hb) (Kd.R_base ho0)) (Kd.R_base ho1)) (fun _ h_ => h_.1)); replace HO335 := Aside0.mk (Kd.R_mono (Kd.R_told (Kd.R_told (Kd.R_old cs5_ hb) (Kd.R_base ho0)) (Kd.R_base ho1)) (fun _ h_ => h_.1)); have HO343 := Aside0.mk (Kd.R_lower (Kd.R_new' (Kd.R_new' (Kd.R_new' (Kd.R_new' ho0 (Kd.R_lt cs2_)) (Kd.R_lt cs3_)) (Kd.R_lt cs4_)) (Kd.R_lt cs5_)) (below_size (by repeat (first | (with_reducible first | exact HB.out | apply below_alloc | apply pw_below_drewN | apply below_drew1 | refine below_set ?_ GE336.out | refine below_set ?_ GE337.out) | exact HB.out)))); have HO346 := Aside0.mk (Kd.R_lower (Kd.R_new' (Kd.R_new' (Kd.R_new' (Kd.R_new' ho1 (Kd.R_lt cs2_)) (Kd.R_lt cs3_)) (Kd.R_lt cs4_)) (Kd.R_lt cs5_)) (below_size (by repeat (first | (with_reducible first | exact HB.out | apply below_alloc | apply pw_below_drewN | apply below_drew1 | refine below_set ?_ GE336.out | refine below_set ?_ GE337.out) | exact HB.out)))); replace BK336 := Aside0.mk (blk_below (g := gb336) (o := .cells #[.int .i64 t318, .int .i64 t319, .int .i64 t320, .slice Ao15 t321.length co15, .slice Ao16 t324.length co16] 27 (0, 0)) (by (with_reducible repeat (first | refine blk_drewN ?_ _ | refine blk_drew ?_ | refine blk_alloc ?_ _)); refine blk_far ?_ NB336_337.out _; (with_reducible repeat (first | refine blk_drewN ?_ _ | refine blk_drew ?_ | refine blk_alloc ?_ _)); refine blk_far ?_ NB336_337.out _; (with_reducible repeat (first | refine blk_drewN ?_ _ | refine blk_drew ?_ | refine blk_alloc ?_ _)); refine blk_far ?_ NB336_337.out _; (with_reducible repeat (first | refine blk_drewN ?_ _ | refine blk_drew ?_ | refine blk_alloc ?_ _)); refine blk_far ?_ NB336_337.out _; (with_reducible repeat (first | refine blk_drewN ?_ _ | refine blk_drew ?_ | refine blk_alloc ?_ _)); refine blk_far ?_ NB336_337.out _; (with_reducible repeat (first | refine blk_drewN ?_ _ | refine blk_drew ?_ | refine blk_alloc ?_ _)); refine blk_put (cs := #[.int .i64 t318, .int .i64 t319, .int .i64 t320, .slice Ao15 t321.length co15, .slice none 0 0]) ?_ 4 _ rfl; (with_reducible repeat (first | refine blk_drewN ?_ _ | refine blk_drew ?_ | refine blk_alloc ?_ _)); refine blk_put (cs := #[.int .i64 t318, .int .i64 t319, .int .i64 t320, .slice none 0 0, .slice none 0 0]) ?_ 3 _ rfl; (with_reducible repeat (first | refine blk_drewN ?_ _ | refine blk_drew ?_ | refine blk_alloc ?_ _)); refine blk_put (cs := #[.int .i64 t318, .int .i64 t319, .int .i64 0, .slice none 0 0, .slice none 0 0]) ?_ 2 _ rfl; (with_reducible repeat (first | refine blk_drewN ?_ _ | refine blk_drew ?_ | refine blk_alloc ?_ _)); refine blk_put (cs := #[.int .i64 t318, .int .i64 0, .int .i64 0, .slice none 0 0, .slice none 0 0]) ?_ 1 _ rfl; (with_reducible repeat (first | refine blk_drewN ?_ _ | refine blk_drew ?_ | refine blk_alloc ?_ _)); refine blk_put (cs := #[.int .i64 0, .int .i64 0, .int .i64 0, .slice none 0 0, .slice none 0 0]) ?_ 0 _ rfl; (with_reducible repeat (first | refine blk_drewN ?_ _ | refine blk_drew ?_ | refine blk_alloc ?_ _)); exact BK336.out) hb); replace BK337 := Aside0.mk (blk_below (g := gb337) (o := .cells #[.int .i64 t327, .int .i64 t328, .int .i64 t329, .slice Ao18 t330.length co18, .slice Ao19 t333.length co19] 27 (0, 0)) (by (with_reducible repeat (first | refine blk_drewN ?_ _ | refine blk_drew ?_ | refine blk_alloc ?_ _)); refine blk_put (cs := #[.int .i64 t327, .int .i64 t328, .int .i64 t329, .slice Ao18 t330.length co18, .slice none 0 0]) ?_ 4 _ rfl; (with_reducible repeat (first | refine blk_drewN ?_ _ | refine blk_drew ?_ | refine blk_alloc ?_ _)); refine blk_put (cs := #[.int .i64 t327, .int .i64 t328, .int .i64 t329, .slice none 0 0, .slice none 0 0]) ?_ 3 _ rfl; (with_reducible repeat (first | refine blk_drewN ?_ _ | refine blk_drew ?_ | refine blk_alloc ?_ _)); refine blk_put (cs := #[.int .i64 t327, .int .i64 t328, .int .i64 0, .slice none 0 0, .slice none 0 0]) ?_ 2 _ rfl; (with_reducible repeat (first | refine blk_drewN ?_ _ | refine blk_drew ?_ | refine blk_alloc ?_ _)); refine blk_put (cs := #[.int .i64 t327, .int .i64 0, .int .i64 0, .slice none 0 0, .slice none 0 0]) ?_ 1 _ rfl; (with_reducible repeat (first | refine blk_drewN ?_ _ | refine blk_drew ?_ | refine blk_alloc ?_ _)); refine blk_put (cs := #[.int .i64 0, .int .i64 0, .int .i64 0, .slice none 0 0, .slice none 0 0]) ?_ 0 _ rfl; (with_reducible repeat (first | refine blk_drewN ?_ _ | refine blk_drew ?_ | refine blk_alloc ?_ _)); refine blk_far ?_ NB337_336.out _; (with_reducible repeat (first | refine blk_drewN ?_ _ | refine blk_drew ?_ | refine blk_alloc ?_ _)); refine blk_far ?_ NB337_336.out _; (with_reducible repeat (first | refine blk_drewN ?_ _ | refine blk_drew ?_ | refine blk_alloc ?_ _)); refine blk_far ?_ NB337_336.out _; (with_reducible repeat (first | refine blk_drewN ?_ _ | refine blk_drew ?_ | refine blk_alloc ?_ _)); refine blk_far ?_ NB337_336.out _; (with_reducible repeat (first | refine blk_drewN ?_ _ | refine blk_drew ?_ | refine blk_alloc ?_ _)); refine blk_far ?_ NB337_336.out _; (with_reducible repeat (first | refine blk_drewN ?_ _ | refine blk_drew ?_ | refine blk_alloc ?_ _)); exact BK337.out) hb); replace HB := Aside0.mk (below_step (by repeat (first | (with_reducible first | exact HB.out | apply below_alloc | apply pw_below_drewN | apply below_drew1 | refine below_set ?_ GE336.out | refine below_set ?_ GE337.out) | exact HB.out)) hb); clear cs5_ cs4_ cs3_ cs2_; (try clear hb); (try clear hb2); (try clear hk); (try clear hi); (try clear ho0); (try clear ho1)) | ((with_reducible refine gate_dst (N := 5) rfl ?_); refine box_event ?hg (N := 5) ?hd (cs := #[.int .i64 0, .int .i64 0, .int .i64 0, .slice none 0 0, .slice none 0 0]) (t := 27) ?hr ?_; (case hd => rfl); (case hg => rfl); (case hr => first | (go_simp; done) | (go_simp; rfl)); intro gb347 hg w21 hbox hb; replace HO323 := Aside0.mk (Kd.R_below HO323.out hb); replace HO326 := Aside0.mk (Kd.R_below HO326.out hb); replace HO332 := Aside0.mk (Kd.R_below HO332.out hb); replace HO335 := Aside0.mk (Kd.R_below HO335.out hb); replace HO343 := Aside0.mk (Kd.R_below HO343.out hb); replace HO346 := Aside0.mk (Kd.R_below HO346.out hb); have BK347 := Aside0.mk (hbox); have GW347 := Aside0.mk ((by rw [hg]; exact (below_size HB.out) : w.heap.size ≤ gb347)); have GE347 := Aside0.mk ((by rw [hg]; exact (below_size HB.out) : w.heap.size ≤ gb347)); replace HB := Aside0.mk (below_step HB.out hb); have NB336_347 := Aside0.mk ((by rw [hg]; exact Nat.ne_of_lt (blk_lt BK336.out) : gb336 ≠ gb347)); have NB347_336 := Aside0.mk ((by rw [hg]; exact Nat.ne_of_gt (blk_lt BK336.out) : gb347 ≠ gb336)); replace BK336 := Aside0.mk (blk_below BK336.out hb); have NB337_347 := Aside0.mk ((by rw [hg]; exact Nat.ne_of_lt (blk_lt BK337.out) : gb337 ≠ gb347)); have NB347_337 := Aside0.mk ((by rw [hg]; exact Nat.ne_of_gt (blk_lt BK337.out) : gb347 ≠ gb337)); replace BK337 := Aside0.mk (blk_below BK337.out hb); clear hb hbox hg; have hnb22 := NB347_336.out; have hnc22 := NB336_347.out; have hnb23 := NB347_337.out; have hnc23 := NB337_347.out; have hcz24_0 : w21.cell? ⟨gb347, 0, none⟩ = some (.int .i64 0) := (blk_cell BK347.out 0).trans rfl; have hcz24_1 : w21.cell? ⟨gb347, 1, none⟩ = some (.int .i64 0) := (blk_cell BK347.out 1).trans rfl; have hcz24_2 : w21.cell? ⟨gb347, 2, none⟩ = some (.int .i64 0) := (blk_cell BK347.out 2).trans rfl; have hcz24_3 : w21.cell? ⟨gb347, 3, none⟩ = some (.slice none 0 0) := (blk_cell BK347.out 3).trans rfl; have hcz24_4 : w21.cell? ⟨gb347, 4, none⟩ = some (.slice none 0 0) := (blk_cell BK347.out 4).trans rfl; have hfz24_0 := blk_frozen BK347.out 0; have hfz24_1 := blk_frozen BK347.out 1; have hfz24_2 := blk_frozen BK347.out 2; have hfz24_3 := blk_frozen BK347.out 3; have hfz24_4 := blk_frozen BK347.out 4; obtain ⟨Ao25, co25, eo25⟩ := Kd.R_slice HO343.out; subst eo25; obtain ⟨Ao26, co26, eo26⟩ := Kd.R_slice HO346.out; subst eo26))
  have n0_ : Aside0 (Kd.R (Kd.int .i64) 3 (((((w21.setCell ⟨gb347, 0, none⟩ (.int .i64 t338)).setCell ⟨gb347, 1, none⟩ (.int .i64 t339)).setCell ⟨gb347, 2, none⟩ (.int .i64 t340)).setCell ⟨gb347, 3, none⟩ (.slice Ao25 t341.length co25)).setCell ⟨gb347, 4, none⟩ (.slice Ao26 t344.length co26)) w.heap.size (fun k_ => Nbothx11_ k_ Ao16 t324 co16 ∧ Nbothx11_ k_ Ao18 t330 co18 ∧ Nbothx11_ k_ Ao19 t333 co19 ∧ Nbothx11_ k_ Ao25 t341 co25 ∧ Nbothx11_ k_ Ao26 t344 co26) (.slice Ao15 t321.length co15) t321) := ⟨by (with_reducible repeat (first | apply Kd.R_alloc | apply Kd.R_drewN | apply Kd.R_drew)); exact Kd.R_mono (Kd.R_far (p := ⟨gb347, 4, none⟩) (Kd.R_far (p := ⟨gb347, 3, none⟩) (Kd.R_far (p := ⟨gb347, 2, none⟩) (Kd.R_far (p := ⟨gb347, 1, none⟩) (Kd.R_far (p := ⟨gb347, 0, none⟩) (Kd.R_types HO323.out BK347.out (by decide)) (fun _ hk => hk.2) (.int .i64 t338)) (fun _ hk => hk.2) (.int .i64 t339)) (fun _ hk => hk.2) (.int .i64 t340)) (fun _ hk => hk.2) (.slice Ao25 t341.length co25)) (fun _ hk => hk.2) (.slice Ao26 t344.length co26)) (fun _ => pmothx11_0)⟩
  have n1_ : Aside0 (Kd.R (Kd.int .i64) 3 (((((w21.setCell ⟨gb347, 0, none⟩ (.int .i64 t338)).setCell ⟨gb347, 1, none⟩ (.int .i64 t339)).setCell ⟨gb347, 2, none⟩ (.int .i64 t340)).setCell ⟨gb347, 3, none⟩ (.slice Ao25 t341.length co25)).setCell ⟨gb347, 4, none⟩ (.slice Ao26 t344.length co26)) w.heap.size (fun k_ => Nbothx11_ k_ Ao15 t321 co15 ∧ Nbothx11_ k_ Ao18 t330 co18 ∧ Nbothx11_ k_ Ao19 t333 co19 ∧ Nbothx11_ k_ Ao25 t341 co25 ∧ Nbothx11_ k_ Ao26 t344 co26) (.slice Ao16 t324.length co16) t324) := ⟨by (with_reducible repeat (first | apply Kd.R_alloc | apply Kd.R_drewN | apply Kd.R_drew)); exact Kd.R_mono (Kd.R_far (p := ⟨gb347, 4, none⟩) (Kd.R_far (p := ⟨gb347, 3, none⟩) (Kd.R_far (p := ⟨gb347, 2, none⟩) (Kd.R_far (p := ⟨gb347, 1, none⟩) (Kd.R_far (p := ⟨gb347, 0, none⟩) (Kd.R_types HO326.out BK347.out (by decide)) (fun _ hk => hk.2) (.int .i64 t338)) (fun _ hk => hk.2) (.int .i64 t339)) (fun _ hk => hk.2) (.int .i64 t340)) (fun _ hk => hk.2) (.slice Ao25 t341.length co25)) (fun _ hk => hk.2) (.slice Ao26 t344.length co26)) (fun _ => pmothx11_0)⟩
  have n2_ : Aside0 (Kd.R (Kd.int .i64) 3 (((((w21.setCell ⟨gb347, 0, none⟩ (.int .i64 t338)).setCell ⟨gb347, 1, none⟩ (.int .i64 t339)).setCell ⟨gb347, 2, none⟩ (.int .i64 t340)).setCell ⟨gb347, 3, none⟩ (.slice Ao25 t341.length co25)).setCell ⟨gb347, 4, none⟩ (.slice Ao26 t344.length co26)) w.heap.size (fun k_ => Nbothx11_ k_ Ao15 t321 co15 ∧ Nbothx11_ k_ Ao16 t324 co16 ∧ Nbothx11_ k_ Ao19 t333 co19 ∧ Nbothx11_ k_ Ao25 t341 co25 ∧ Nbothx11_ k_ Ao26 t344 co26) (.slice Ao18 t330.length co18) t330) := ⟨by (with_reducible repeat (first | apply Kd.R_alloc | apply Kd.R_drewN | apply Kd.R_drew)); exact Kd.R_mono (Kd.R_far (p := ⟨gb347, 4, none⟩) (Kd.R_far (p := ⟨gb347, 3, none⟩) (Kd.R_far (p := ⟨gb347, 2, none⟩) (Kd.R_far (p := ⟨gb347, 1, none⟩) (Kd.R_far (p := ⟨gb347, 0, none⟩) (Kd.R_types HO332.out BK347.out (by decide)) (fun _ hk => hk.2) (.int .i64 t338)) (fun _ hk => hk.2) (.int .i64 t339)) (fun _ hk => hk.2) (.int .i64 t340)) (fun _ hk => hk.2) (.slice Ao25 t341.length co25)) (fun _ hk => hk.2) (.slice Ao26 t344.length co26)) (fun _ => pmothx11_0)⟩
  have n3_ : Aside0 (Kd.R (Kd.int .i64) 3 (((((w21.setCell ⟨gb347, 0, none⟩ (.int .i64 t338)).setCell ⟨gb347, 1, none⟩ (.int .i64 t339)).setCell ⟨gb347, 2, none⟩ (.int .i64 t340)).setCell ⟨gb347, 3, none⟩ (.slice Ao25 t341.length co25)).setCell ⟨gb347, 4, none⟩ (.slice Ao26 t344.length co26)) w.heap.size (fun k_ => Nbothx11_ k_ Ao15 t321 co15 ∧ Nbothx11_ k_ Ao16 t324 co16 ∧ Nbothx11_ k_ Ao18 t330 co18 ∧ Nbothx11_ k_ Ao25 t341 co25 ∧ Nbothx11_ k_ Ao26 t344 co26) (.slice Ao19 t333.length co19) t333) := ⟨by (with_reducible repeat (first | apply Kd.R_alloc | apply Kd.R_drewN | apply Kd.R_drew)); exact Kd.R_mono (Kd.R_far (p := ⟨gb347, 4, none⟩) (Kd.R_far (p := ⟨gb347, 3, none⟩) (Kd.R_far (p := ⟨gb347, 2, none⟩) (Kd.R_far (p := ⟨gb347, 1, none⟩) (Kd.R_far (p := ⟨gb347, 0, none⟩) (Kd.R_types HO335.out BK347.out (by decide)) (fun _ hk => hk.2) (.int .i64 t338)) (fun _ hk => hk.2) (.int .i64 t339)) (fun _ hk => hk.2) (.int .i64 t340)) (fun _ hk => hk.2) (.slice Ao25 t341.length co25)) (fun _ hk => hk.2) (.slice Ao26 t344.length co26)) (fun _ => pmothx11_0)⟩
  have n4_ : Aside0 (Kd.R (Kd.int .i64) 3 (((((w21.setCell ⟨gb347, 0, none⟩ (.int .i64 t338)).setCell ⟨gb347, 1, none⟩ (.int .i64 t339)).setCell ⟨gb347, 2, none⟩ (.int .i64 t340)).setCell ⟨gb347, 3, none⟩ (.slice Ao25 t341.length co25)).setCell ⟨gb347, 4, none⟩ (.slice Ao26 t344.length co26)) w.heap.size (fun k_ => Nbothx11_ k_ Ao15 t321 co15 ∧ Nbothx11_ k_ Ao16 t324 co16 ∧ Nbothx11_ k_ Ao18 t330 co18 ∧ Nbothx11_ k_ Ao19 t333 co19 ∧ Nbothx11_ k_ Ao26 t344 co26) (.slice Ao25 t341.length co25) t341) := ⟨by (with_reducible repeat (first | apply Kd.R_alloc | apply Kd.R_drewN | apply Kd.R_drew)); exact Kd.R_mono (Kd.R_far (p := ⟨gb347, 4, none⟩) (Kd.R_far (p := ⟨gb347, 3, none⟩) (Kd.R_far (p := ⟨gb347, 2, none⟩) (Kd.R_far (p := ⟨gb347, 1, none⟩) (Kd.R_far (p := ⟨gb347, 0, none⟩) (Kd.R_types HO343.out BK347.out (by decide)) (fun _ hk => hk.2) (.int .i64 t338)) (fun _ hk => hk.2) (.int .i64 t339)) (fun _ hk => hk.2) (.int .i64 t340)) (fun _ hk => hk.2) (.slice Ao25 t341.length co25)) (fun _ hk => hk.2) (.slice Ao26 t344.length co26)) (fun _ hk => ⟨hk.1.1.1.1.2, ⟨hk.1.1.1.2, ⟨hk.1.1.2, ⟨hk.1.2, hk.1.1.1.1.1⟩⟩⟩⟩)⟩
  have n5_ : Aside0 (Kd.R (Kd.int .i64) 3 (((((w21.setCell ⟨gb347, 0, none⟩ (.int .i64 t338)).setCell ⟨gb347, 1, none⟩ (.int .i64 t339)).setCell ⟨gb347, 2, none⟩ (.int .i64 t340)).setCell ⟨gb347, 3, none⟩ (.slice Ao25 t341.length co25)).setCell ⟨gb347, 4, none⟩ (.slice Ao26 t344.length co26)) w.heap.size (fun k_ => Nbothx11_ k_ Ao15 t321 co15 ∧ Nbothx11_ k_ Ao16 t324 co16 ∧ Nbothx11_ k_ Ao18 t330 co18 ∧ Nbothx11_ k_ Ao19 t333 co19 ∧ Nbothx11_ k_ Ao25 t341 co25) (.slice Ao26 t344.length co26) t344) := ⟨by (with_reducible repeat (first | apply Kd.R_alloc | apply Kd.R_drewN | apply Kd.R_drew)); exact Kd.R_mono (Kd.R_far (p := ⟨gb347, 4, none⟩) (Kd.R_far (p := ⟨gb347, 3, none⟩) (Kd.R_far (p := ⟨gb347, 2, none⟩) (Kd.R_far (p := ⟨gb347, 1, none⟩) (Kd.R_far (p := ⟨gb347, 0, none⟩) (Kd.R_types HO346.out BK347.out (by decide)) (fun _ hk => hk.2) (.int .i64 t338)) (fun _ hk => hk.2) (.int .i64 t339)) (fun _ hk => hk.2) (.int .i64 t340)) (fun _ hk => hk.2) (.slice Ao25 t341.length co25)) (fun _ hk => hk.2) (.slice Ao26 t344.length co26)) (fun _ hk => ⟨hk.1.1.1.1.2, ⟨hk.1.1.1.2, ⟨hk.1.1.2, ⟨hk.1.2, hk.1.1.1.1.1⟩⟩⟩⟩)⟩
  have n6_ : Aside0 ((((((w21.setCell ⟨gb347, 0, none⟩ (.int .i64 t338)).setCell ⟨gb347, 1, none⟩ (.int .i64 t339)).setCell ⟨gb347, 2, none⟩ (.int .i64 t340)).setCell ⟨gb347, 3, none⟩ (.slice Ao25 t341.length co25)).setCell ⟨gb347, 4, none⟩ (.slice Ao26 t344.length co26)).heap[gb336]? = some (.cells #[.int .i64 t318, .int .i64 t319, .int .i64 t320, .slice Ao15 t321.length co15, .slice Ao16 t324.length co16] 27 (0, 0))) := ⟨by (with_reducible repeat (first | refine blk_drewN ?_ _ | refine blk_drew ?_ | refine blk_alloc ?_ _)); refine blk_far ?_ NB336_347.out _; (with_reducible repeat (first | refine blk_drewN ?_ _ | refine blk_drew ?_ | refine blk_alloc ?_ _)); refine blk_far ?_ NB336_347.out _; (with_reducible repeat (first | refine blk_drewN ?_ _ | refine blk_drew ?_ | refine blk_alloc ?_ _)); refine blk_far ?_ NB336_347.out _; (with_reducible repeat (first | refine blk_drewN ?_ _ | refine blk_drew ?_ | refine blk_alloc ?_ _)); refine blk_far ?_ NB336_347.out _; (with_reducible repeat (first | refine blk_drewN ?_ _ | refine blk_drew ?_ | refine blk_alloc ?_ _)); refine blk_far ?_ NB336_347.out _; (with_reducible repeat (first | refine blk_drewN ?_ _ | refine blk_drew ?_ | refine blk_alloc ?_ _)); exact BK336.out⟩
  have n7_ : Aside0 ((((((w21.setCell ⟨gb347, 0, none⟩ (.int .i64 t338)).setCell ⟨gb347, 1, none⟩ (.int .i64 t339)).setCell ⟨gb347, 2, none⟩ (.int .i64 t340)).setCell ⟨gb347, 3, none⟩ (.slice Ao25 t341.length co25)).setCell ⟨gb347, 4, none⟩ (.slice Ao26 t344.length co26)).heap[gb337]? = some (.cells #[.int .i64 t327, .int .i64 t328, .int .i64 t329, .slice Ao18 t330.length co18, .slice Ao19 t333.length co19] 27 (0, 0))) := ⟨by (with_reducible repeat (first | refine blk_drewN ?_ _ | refine blk_drew ?_ | refine blk_alloc ?_ _)); refine blk_far ?_ NB337_347.out _; (with_reducible repeat (first | refine blk_drewN ?_ _ | refine blk_drew ?_ | refine blk_alloc ?_ _)); refine blk_far ?_ NB337_347.out _; (with_reducible repeat (first | refine blk_drewN ?_ _ | refine blk_drew ?_ | refine blk_alloc ?_ _)); refine blk_far ?_ NB337_347.out _; (with_reducible repeat (first | refine blk_drewN ?_ _ | refine blk_drew ?_ | refine blk_alloc ?_ _)); refine blk_far ?_ NB337_347.out _; (with_reducible repeat (first | refine blk_drewN ?_ _ | refine blk_drew ?_ | refine blk_alloc ?_ _)); refine blk_far ?_ NB337_347.out _; (with_reducible repeat (first | refine blk_drewN ?_ _ | refine blk_drew ?_ | refine blk_alloc ?_ _)); exact BK337.out⟩
  have n8_ : Aside0 ((((((w21.setCell ⟨gb347, 0, none⟩ (.int .i64 t338)).setCell ⟨gb347, 1, none⟩ (.int .i64 t339)).setCell ⟨gb347, 2, none⟩ (.int .i64 t340)).setCell ⟨gb347, 3, none⟩ (.slice Ao25 t341.length co25)).setCell ⟨gb347, 4, none⟩ (.slice Ao26 t344.length co26)).heap[gb347]? = some (.cells #[.int .i64 t338, .int .i64 t339, .int .i64 t340, .slice Ao25 t341.length co25, .slice Ao26 t344.length co26] 27 (0, 0))) := ⟨by (with_reducible repeat (first | refine blk_drewN ?_ _ | refine blk_drew ?_ | refine blk_alloc ?_ _)); refine blk_put (cs := #[.int .i64 t338, .int .i64 t339, .int .i64 t340, .slice Ao25 t341.length co25, .slice none 0 0]) ?_ 4 _ rfl; (with_reducible repeat (first | refine blk_drewN ?_ _ | refine blk_drew ?_ | refine blk_alloc ?_ _)); refine blk_put (cs := #[.int .i64 t338, .int .i64 t339, .int .i64 t340, .slice none 0 0, .slice none 0 0]) ?_ 3 _ rfl; (with_reducible repeat (first | refine blk_drewN ?_ _ | refine blk_drew ?_ | refine blk_alloc ?_ _)); refine blk_put (cs := #[.int .i64 t338, .int .i64 t339, .int .i64 0, .slice none 0 0, .slice none 0 0]) ?_ 2 _ rfl; (with_reducible repeat (first | refine blk_drewN ?_ _ | refine blk_drew ?_ | refine blk_alloc ?_ _)); refine blk_put (cs := #[.int .i64 t338, .int .i64 0, .int .i64 0, .slice none 0 0, .slice none 0 0]) ?_ 1 _ rfl; (with_reducible repeat (first | refine blk_drewN ?_ _ | refine blk_drew ?_ | refine blk_alloc ?_ _)); refine blk_put (cs := #[.int .i64 0, .int .i64 0, .int .i64 0, .slice none 0 0, .slice none 0 0]) ?_ 0 _ rfl; (with_reducible repeat (first | refine blk_drewN ?_ _ | refine blk_drew ?_ | refine blk_alloc ?_ _)); exact BK347.out⟩
  have n9_ : Aside0 (Below w.heap.size w (((((w21.setCell ⟨gb347, 0, none⟩ (.int .i64 t338)).setCell ⟨gb347, 1, none⟩ (.int .i64 t339)).setCell ⟨gb347, 2, none⟩ (.int .i64 t340)).setCell ⟨gb347, 3, none⟩ (.slice Ao25 t341.length co25)).setCell ⟨gb347, 4, none⟩ (.slice Ao26 t344.length co26))) := ⟨by repeat (first | (with_reducible first | exact HB.out | apply below_alloc | apply pw_below_drewN | apply below_drew1 | refine below_set ?_ GE336.out | refine below_set ?_ GE337.out | refine below_set ?_ GE347.out) | exact HB.out)⟩
  (try clear HO323)
  (try clear HO326)
  (try clear HO332)
  (try clear HO335)
  (try clear HO343)
  (try clear HO346)
  (try clear BK336)
  (try clear BK337)
  (try clear BK347)
  (try clear HB)
  generalize (((((w21.setCell ⟨gb347, 0, none⟩ (.int .i64 t338)).setCell ⟨gb347, 1, none⟩ (.int .i64 t339)).setCell ⟨gb347, 2, none⟩ (.int .i64 t340)).setCell ⟨gb347, 3, none⟩ (.slice Ao25 t341.length co25)).setCell ⟨gb347, 4, none⟩ (.slice Ao26 t344.length co26)) = w27 at n0_ n1_ n2_ n3_ n4_ n5_ n6_ n7_ n8_ n9_ ⊢
  have HO323 := n0_
  have HO326 := n1_
  have HO332 := n2_
  have HO335 := n3_
  have HO343 := n4_
  have HO346 := n5_
  have BK336 := n6_
  have BK337 := n7_
  have BK347 := n8_
  have HB := n9_
  clear n0_ n1_ n2_ n3_ n4_ n5_ n6_ n7_ n8_ n9_
  replace HO323 := Aside0.mk (Kd.R_drew HO323.out)
  replace HO326 := Aside0.mk (Kd.R_drew HO326.out)
  replace HO332 := Aside0.mk (Kd.R_drew HO332.out)
  replace HO335 := Aside0.mk (Kd.R_drew HO335.out)
  replace HO343 := Aside0.mk (Kd.R_drew HO343.out)
  replace HO346 := Aside0.mk (Kd.R_drew HO346.out)
  replace BK336 := Aside0.mk (blk_drew BK336.out)
  replace BK337 := Aside0.mk (blk_drew BK337.out)
  replace BK347 := Aside0.mk (blk_drew BK347.out)
  replace HB := Aside0.mk (below_drew1 HB.out)
  refine start_ (n := 6) (S := fun w' => w'.cell? ⟨gb347, 0, none⟩ = some (.int .i64 t338) ∧ w'.cell? ⟨gb347, 1, none⟩ = some (.int .i64 t339) ∧ w'.cell? ⟨gb347, 2, none⟩ = some (.int .i64 t340) ∧ w'.cell? ⟨gb347, 3, none⟩ = some (.slice Ao25 t341.length co25) ∧ w'.cell? ⟨gb347, 4, none⟩ = some (.slice Ao26 t344.length co26) ∧ w'.cell? ⟨gb336, 0, none⟩ = some (.int .i64 t318) ∧ w'.cell? ⟨gb336, 1, none⟩ = some (.int .i64 t319) ∧ w'.cell? ⟨gb336, 2, none⟩ = some (.int .i64 t320) ∧ w'.cell? ⟨gb336, 3, none⟩ = some (.slice Ao15 t321.length co15) ∧ w'.cell? ⟨gb336, 4, none⟩ = some (.slice Ao16 t324.length co16) ∧ w'.cell? ⟨gb337, 0, none⟩ = some (.int .i64 t327) ∧ w'.cell? ⟨gb337, 1, none⟩ = some (.int .i64 t328) ∧ w'.cell? ⟨gb337, 2, none⟩ = some (.int .i64 t329) ∧ w'.cell? ⟨gb337, 3, none⟩ = some (.slice Ao18 t330.length co18) ∧ w'.cell? ⟨gb337, 4, none⟩ = some (.slice Ao19 t333.length co19)) (ds := []) #[false, false, false, false, false, false] (by kernel_rfl) rfl rfl ⟨(blk_cell BK347.out 0).trans rfl, (blk_cell BK347.out 1).trans rfl, (blk_cell BK347.out 2).trans rfl, (blk_cell BK347.out 3).trans rfl, (blk_cell BK347.out 4).trans rfl, (blk_cell BK336.out 0).trans rfl, (blk_cell BK336.out 1).trans rfl, (blk_cell BK336.out 2).trans rfl, (blk_cell BK336.out 3).trans rfl, (blk_cell BK336.out 4).trans rfl, (blk_cell BK337.out 0).trans rfl, (blk_cell BK337.out 1).trans rfl, (blk_cell BK337.out 2).trans rfl, (blk_cell BK337.out 3).trans rfl, (blk_cell BK337.out 4).trans rfl⟩ (fun hHeld => ?_)
  generalize w27.drew = w28 at HO323 HO326 HO332 HO335 HO343 HO346 BK336 BK337 BK347 HB hHeld ⊢
  refine take_ (i := 0) (N := some 19) (v := ?_) (a' := ?_) #[true, false, false, false, false, false] rfl rfl (by kernel_rfl) (fun _ _ _ h => h) (Or.inl ⟨by rfl, ?_⟩) hHeld ?_ ?_
  rotate_left
  ·rintro w' ⟨s0, s1, s2, s3, s4, s5, s6, s7, s8, s9, s10, s11, s12, s13, s14⟩
   go_simp
   with_reducible rfl
  rotate_left
  ·simp only [Act.put, List.setIfInBounds_toArray, List.set_cons_zero, List.set_cons_succ, i64_w, i32_w]
   rfl
  refine take_ (i := 1) (N := some 20) (v := ?_) (a' := ?_) #[true, true, false, false, false, false] rfl rfl (by kernel_rfl) (fun _ _ _ h => h) (Or.inl ⟨by rfl, ?_⟩) hHeld ?_ ?_
  rotate_left
  ·rintro w' ⟨s0, s1, s2, s3, s4, s5, s6, s7, s8, s9, s10, s11, s12, s13, s14⟩
   go_simp
   with_reducible rfl
  rotate_left
  ·simp only [Act.put, List.setIfInBounds_toArray, List.set_cons_zero, List.set_cons_succ, i64_w, i32_w]
   rfl
  refine take_ (i := 2) (N := some 21) (v := ?_) (a' := ?_) #[true, true, true, false, false, false] rfl rfl (by kernel_rfl) (fun _ _ _ h => h) (Or.inl ⟨by rfl, ?_⟩) hHeld ?_ ?_
  rotate_left
  ·rintro w' ⟨s0, s1, s2, s3, s4, s5, s6, s7, s8, s9, s10, s11, s12, s13, s14⟩
   go_simp
   with_reducible rfl
  rotate_left
  ·simp only [Act.put, List.setIfInBounds_toArray, List.set_cons_zero, List.set_cons_succ, i64_w, i32_w]
   rfl
  refine one_ (i := 3) (N := some 22) #[true, true, true, true, false, false] rfl rfl (by kernel_rfl) (by decide) (fun K hK => ?_)
  refine goes_ Try.func30 (by kernel_rfl) rfl #[.agg #[.int .i64 t318, .int .i64 t319, .int .i64 t320, .slice Ao15 t321.length co15, .slice Ao16 t324.length co16], .agg #[.int .i64 t327, .int .i64 t328, .int .i64 t329, .slice Ao18 t330.length co18, .slice Ao19 t333.length co19]] (by rfl) rfl rfl (by (try simp only [List.map_toArray, List.map_cons, List.map_nil]); first | done | rfl) ?_
  with_reducible refine (spec_Both.calls k t318 t319 t320 _ _ t321 _ _ t324 t327 t328 t329 _ _ t330 _ _ t333 t348 t349 t350 t351 t354 _ ?side1 ?side2 ?side3 ?side4 ?side5 ?side6 ?side7 ?side8 A6.out).mono ?_
  (case side1 => exact (Kd.R_reads' HO323.out).2.2)
  (case side2 => exact (Kd.R_reads' HO323.out).2.1)
  (case side3 => exact (Kd.R_reads' HO326.out).2.2)
  (case side4 => exact (Kd.R_reads' HO326.out).2.1)
  (case side5 => exact (Kd.R_reads' HO332.out).2.2)
  (case side6 => exact (Kd.R_reads' HO332.out).2.1)
  (case side7 => exact (Kd.R_reads' HO335.out).2.2)
  (case side8 => exact (Kd.R_reads' HO335.out).2.1)
  rintro e w29 ⟨v352, v355, rfl, ho0, ho1, hb⟩
  refine ⟨_, rfl, ?_⟩
  have HO353 := Aside0.mk (Kd.R_lower (Kd.R_new' (Kd.R_new' (Kd.R_new' (Kd.R_new' (Kd.R_new' (Kd.R_new' ho0 (Kd.R_lt HO323.out)) (Kd.R_lt HO326.out)) (Kd.R_lt HO332.out)) (Kd.R_lt HO335.out)) (Kd.R_lt HO343.out)) (Kd.R_lt HO346.out)) (below_size HB.out))
  have HO356 := Aside0.mk (Kd.R_lower (Kd.R_new' (Kd.R_new' (Kd.R_new' (Kd.R_new' (Kd.R_new' (Kd.R_new' ho1 (Kd.R_lt HO323.out)) (Kd.R_lt HO326.out)) (Kd.R_lt HO332.out)) (Kd.R_lt HO335.out)) (Kd.R_lt HO343.out)) (Kd.R_lt HO346.out)) (below_size HB.out))
  replace HO323 := Aside0.mk (Kd.R_mono (Kd.R_told (Kd.R_told (Kd.R_old HO323.out hb) (Kd.R_base ho0)) (Kd.R_base ho1)) (fun _ h_ => h_.1))
  replace HO326 := Aside0.mk (Kd.R_mono (Kd.R_told (Kd.R_told (Kd.R_old HO326.out hb) (Kd.R_base ho0)) (Kd.R_base ho1)) (fun _ h_ => h_.1))
  replace HO332 := Aside0.mk (Kd.R_mono (Kd.R_told (Kd.R_told (Kd.R_old HO332.out hb) (Kd.R_base ho0)) (Kd.R_base ho1)) (fun _ h_ => h_.1))
  replace HO335 := Aside0.mk (Kd.R_mono (Kd.R_told (Kd.R_told (Kd.R_old HO335.out hb) (Kd.R_base ho0)) (Kd.R_base ho1)) (fun _ h_ => h_.1))
  replace HO343 := Aside0.mk (Kd.R_mono (Kd.R_told (Kd.R_told (Kd.R_old HO343.out hb) (Kd.R_base ho0)) (Kd.R_base ho1)) (fun _ h_ => h_.1))
  replace HO346 := Aside0.mk (Kd.R_mono (Kd.R_told (Kd.R_told (Kd.R_old HO346.out hb) (Kd.R_base ho0)) (Kd.R_base ho1)) (fun _ h_ => h_.1))
  replace BK336 := Aside0.mk (blk_below BK336.out hb)
  replace BK337 := Aside0.mk (blk_below BK337.out hb)
  replace BK347 := Aside0.mk (blk_below BK347.out hb)
  replace HB := Aside0.mk (below_step HB.out hb)
  (try clear hb)
  (try clear hb2)
  (try clear hk)
  (try clear hi)
  (try clear ho0)
  (try clear ho1)
  obtain ⟨Ao30, co30, eo30⟩ := Kd.R_slice HO353.out
  (first | subst eo30 | (injection eo30 with f1_ f2_ f3_; have f4_ := f1_.symm; have f5_ := f3_.symm; clear f1_ f2_ f3_; subst f4_; subst f5_))
  obtain ⟨Ao31, co31, eo31⟩ := Kd.R_slice HO356.out
  (first | subst eo31 | (injection eo31 with f1_ f2_ f3_; have f4_ := f1_.symm; have f5_ := f3_.symm; clear f1_ f2_ f3_; subst f4_; subst f5_))
  refine hK.out _ _ ⟨(blk_cell BK347.out 0).trans rfl, (blk_cell BK347.out 1).trans rfl, (blk_cell BK347.out 2).trans rfl, (blk_cell BK347.out 3).trans rfl, (blk_cell BK347.out 4).trans rfl, (blk_cell BK336.out 0).trans rfl, (blk_cell BK336.out 1).trans rfl, (blk_cell BK336.out 2).trans rfl, (blk_cell BK336.out 3).trans rfl, (blk_cell BK336.out 4).trans rfl, (blk_cell BK337.out 0).trans rfl, (blk_cell BK337.out 1).trans rfl, (blk_cell BK337.out 2).trans rfl, (blk_cell BK337.out 3).trans rfl, (blk_cell BK337.out 4).trans rfl⟩ (fun hHeld => ?_)
  clear hK K
  refine norm_ (a' := ?_) ?_ ?_
  rotate_left
  ·show Act.put _ (some 22) _ = _
   simp only [Act.put, List.setIfInBounds_toArray, List.set_cons_zero, List.set_cons_succ, i64_w, i32_w]
   rfl
  refine one_ (i := 4) (N := some 23) #[true, true, true, true, true, false] rfl rfl (by kernel_rfl) (by decide) (fun K hK => ?_)
  refine goes_ Try.func29 (by kernel_rfl) rfl #[.agg #[.int .i64 t338, .int .i64 t339, .int .i64 t340, .slice Ao25 t341.length co25, .slice Ao26 t344.length co26], .agg #[.int .i64 t348, .int .i64 t349, .int .i64 t350, .slice Ao30 t351.length co30, .slice Ao31 t354.length co31]] (by rfl) rfl rfl (by (try simp only [List.map_toArray, List.map_cons, List.map_nil]); first | done | rfl) ?_
  with_reducible refine (laws_samePattern.calls k t338 t339 t340 _ _ t341 _ _ t344 t348 t349 t350 _ _ t351 _ _ t354 true _ ?side1 ?side2 ?side3 ?side4 ?side5 ?side6 ?side7 ?side8 A7.out).mono ?_
  (case side1 => exact (Kd.R_reads' HO343.out).2.2)
  (case side2 => exact (Kd.R_reads' HO343.out).2.1)
  (case side3 => exact (Kd.R_reads' HO346.out).2.2)
  (case side4 => exact (Kd.R_reads' HO346.out).2.1)
  (case side5 => exact (Kd.R_reads' HO353.out).2.2)
  (case side6 => exact (Kd.R_reads' HO353.out).2.1)
  (case side7 => exact (Kd.R_reads' HO356.out).2.2)
  (case side8 => exact (Kd.R_reads' HO356.out).2.1)
  rintro e w32 ⟨rfl, hb⟩
  refine ⟨_, rfl, ?_⟩
  replace HO323 := Aside0.mk (Kd.R_below HO323.out hb)
  replace HO326 := Aside0.mk (Kd.R_below HO326.out hb)
  replace HO332 := Aside0.mk (Kd.R_below HO332.out hb)
  replace HO335 := Aside0.mk (Kd.R_below HO335.out hb)
  replace HO343 := Aside0.mk (Kd.R_below HO343.out hb)
  replace HO346 := Aside0.mk (Kd.R_below HO346.out hb)
  replace HO353 := Aside0.mk (Kd.R_below HO353.out hb)
  replace HO356 := Aside0.mk (Kd.R_below HO356.out hb)
  replace BK336 := Aside0.mk (blk_below BK336.out hb)
  replace BK337 := Aside0.mk (blk_below BK337.out hb)
  replace BK347 := Aside0.mk (blk_below BK347.out hb)
  replace HB := Aside0.mk (below_step HB.out hb)
  (try clear hb)
  (try clear hb2)
  (try clear hk)
  (try clear hi)
  refine hK.out _ _ ⟨(blk_cell BK347.out 0).trans rfl, (blk_cell BK347.out 1).trans rfl, (blk_cell BK347.out 2).trans rfl, (blk_cell BK347.out 3).trans rfl, (blk_cell BK347.out 4).trans rfl, (blk_cell BK336.out 0).trans rfl, (blk_cell BK336.out 1).trans rfl, (blk_cell BK336.out 2).trans rfl, (blk_cell BK336.out 3).trans rfl, (blk_cell BK336.out 4).trans rfl, (blk_cell BK337.out 0).trans rfl, (blk_cell BK337.out 1).trans rfl, (blk_cell BK337.out 2).trans rfl, (blk_cell BK337.out 3).trans rfl, (blk_cell BK337.out 4).trans rfl⟩ (fun hHeld => ?_)
  clear hK K
  refine norm_ (a' := ?_) ?_ ?_
  rotate_left
  ·show Act.put _ (some 23) _ = _
   simp only [Act.put, List.setIfInBounds_toArray, List.set_cons_zero, List.set_cons_succ, i64_w, i32_w]
   rfl
  refine pure_ (i := 5) (N := some 24) (v := ?_) (a' := ?_) #[true, true, true, true, true, true] rfl rfl (by kernel_rfl) (fun _ _ _ h => h) (Or.inl ⟨by rfl, ?_⟩) ?_ ?_
  rotate_left
  ·intro w'
   go_simp
   with_reducible rfl
  rotate_left
  ·simp only [Act.put, List.setIfInBounds_toArray, List.set_cons_zero, List.set_cons_succ, i64_w, i32_w]
   rfl
  refine done_ (by kernel_rfl) ?_
  go_upto_region 7 with (fail)
  go_cut [32] (fun v32 wc => ∃ (kq : Nat) (x32_8 : Bool), v32 = .bool x32_8 ∧ Aside0 (laws_FnBoth.j0 kq x32_8 t318 t319 t320 t321 t324 t327 t328 t329 t330 t333 t338 t339 t340 t341 t344 = some true) ∧ Aside0 (kq ≤ k) ∧ Aside0 (Kd.R (Kd.int .i64) 3 wc w.heap.size (fun k_ => some k_ ≠ ((.slice Ao16 t324.length co16) : Value).ownBlock ∧ some k_ ≠ ((.slice Ao18 t330.length co18) : Value).ownBlock ∧ some k_ ≠ ((.slice Ao19 t333.length co19) : Value).ownBlock ∧ some k_ ≠ ((.slice Ao25 t341.length co25) : Value).ownBlock ∧ some k_ ≠ ((.slice Ao26 t344.length co26) : Value).ownBlock) (.slice Ao15 t321.length co15) t321) ∧ Aside0 (Kd.R (Kd.int .i64) 3 wc w.heap.size (fun k_ => some k_ ≠ ((.slice Ao15 t321.length co15) : Value).ownBlock ∧ some k_ ≠ ((.slice Ao18 t330.length co18) : Value).ownBlock ∧ some k_ ≠ ((.slice Ao19 t333.length co19) : Value).ownBlock ∧ some k_ ≠ ((.slice Ao25 t341.length co25) : Value).ownBlock ∧ some k_ ≠ ((.slice Ao26 t344.length co26) : Value).ownBlock) (.slice Ao16 t324.length co16) t324) ∧ Aside0 (Kd.R (Kd.int .i64) 3 wc w.heap.size (fun k_ => some k_ ≠ ((.slice Ao15 t321.length co15) : Value).ownBlock ∧ some k_ ≠ ((.slice Ao16 t324.length co16) : Value).ownBlock ∧ some k_ ≠ ((.slice Ao19 t333.length co19) : Value).ownBlock ∧ some k_ ≠ ((.slice Ao25 t341.length co25) : Value).ownBlock ∧ some k_ ≠ ((.slice Ao26 t344.length co26) : Value).ownBlock) (.slice Ao18 t330.length co18) t330) ∧ Aside0 (Kd.R (Kd.int .i64) 3 wc w.heap.size (fun k_ => some k_ ≠ ((.slice Ao15 t321.length co15) : Value).ownBlock ∧ some k_ ≠ ((.slice Ao16 t324.length co16) : Value).ownBlock ∧ some k_ ≠ ((.slice Ao18 t330.length co18) : Value).ownBlock ∧ some k_ ≠ ((.slice Ao25 t341.length co25) : Value).ownBlock ∧ some k_ ≠ ((.slice Ao26 t344.length co26) : Value).ownBlock) (.slice Ao19 t333.length co19) t333) ∧ Aside0 (Kd.R (Kd.int .i64) 3 wc w.heap.size (fun k_ => some k_ ≠ ((.slice Ao15 t321.length co15) : Value).ownBlock ∧ some k_ ≠ ((.slice Ao16 t324.length co16) : Value).ownBlock ∧ some k_ ≠ ((.slice Ao18 t330.length co18) : Value).ownBlock ∧ some k_ ≠ ((.slice Ao19 t333.length co19) : Value).ownBlock ∧ some k_ ≠ ((.slice Ao26 t344.length co26) : Value).ownBlock) (.slice Ao25 t341.length co25) t341) ∧ Aside0 (Kd.R (Kd.int .i64) 3 wc w.heap.size (fun k_ => some k_ ≠ ((.slice Ao15 t321.length co15) : Value).ownBlock ∧ some k_ ≠ ((.slice Ao16 t324.length co16) : Value).ownBlock ∧ some k_ ≠ ((.slice Ao18 t330.length co18) : Value).ownBlock ∧ some k_ ≠ ((.slice Ao19 t333.length co19) : Value).ownBlock ∧ some k_ ≠ ((.slice Ao25 t341.length co25) : Value).ownBlock) (.slice Ao26 t344.length co26) t344) ∧ Aside0 (wc.heap[gb336]? = some (.cells #[.int .i64 t318, .int .i64 t319, .int .i64 t320, (.slice Ao15 t321.length co15), (.slice Ao16 t324.length co16)] 27 (0, 0))) ∧ Aside0 (wc.heap[gb337]? = some (.cells #[.int .i64 t327, .int .i64 t328, .int .i64 t329, (.slice Ao18 t330.length co18), (.slice Ao19 t333.length co19)] 27 (0, 0))) ∧ Aside0 (wc.heap[gb347]? = some (.cells #[.int .i64 t338, .int .i64 t339, .int .i64 t340, (.slice Ao25 t341.length co25), (.slice Ao26 t344.length co26)] 27 (0, 0))) ∧ Aside0 (Below w.heap.size w wc))
  case first =>
   have H := HC9.out
   clear HC9
   by_cases c33 : t340 = 0
   rotate_left
   ·rw [if_neg c33] at H
    have c33b0 : (t340 == 0) = false := beq_eq_false_iff_ne.mpr c33
    have c33b1 : (t340 != 0) = true := bne_iff_ne.mpr c33
    (first | rw [c33b0] | (simp only [i64_w, i32_w]; rw [c33b0]) | rw [c33b1] | skip)
    have H' := Aside0.mk H
    clear H
    have hnb37 := NB347_336.out
    have hnc37 := NB336_347.out
    have hnb38 := NB347_337.out
    have hnc38 := NB337_347.out
    have hcz39_0 : w32.cell? ⟨gb347, 0, none⟩ = some (.int .i64 t338) := (blk_cell BK347.out 0).trans rfl
    have hcz39_1 : w32.cell? ⟨gb347, 1, none⟩ = some (.int .i64 t339) := (blk_cell BK347.out 1).trans rfl
    have hcz39_2 : w32.cell? ⟨gb347, 2, none⟩ = some (.int .i64 t340) := (blk_cell BK347.out 2).trans rfl
    have hcz39_3 : w32.cell? ⟨gb347, 3, none⟩ = some (.slice Ao25 t341.length co25) := (blk_cell BK347.out 3).trans rfl
    have hcz39_4 : w32.cell? ⟨gb347, 4, none⟩ = some (.slice Ao26 t344.length co26) := (blk_cell BK347.out 4).trans rfl
    have hfz39_0 := blk_frozen BK347.out 0
    have hfz39_1 := blk_frozen BK347.out 1
    have hfz39_2 := blk_frozen BK347.out 2
    have hfz39_3 := blk_frozen BK347.out 3
    have hfz39_4 := blk_frozen BK347.out 4
    go_wp2
    go_meet
    case rel => exact ⟨_, (false), (by first | rfl | (simp; done) | (simp [*]; done)), H', ⟨by first | omega | exact Nat.le_refl _⟩, ⟨by (with_reducible repeat (first | apply Kd.R_alloc | apply Kd.R_drewN | apply Kd.R_drew)); exact Kd.R_mono HO323.out (fun _ => pmothx11_1)⟩, ⟨by (with_reducible repeat (first | apply Kd.R_alloc | apply Kd.R_drewN | apply Kd.R_drew)); exact Kd.R_mono HO326.out (fun _ => pmothx11_1)⟩, ⟨by (with_reducible repeat (first | apply Kd.R_alloc | apply Kd.R_drewN | apply Kd.R_drew)); exact Kd.R_mono HO332.out (fun _ => pmothx11_1)⟩, ⟨by (with_reducible repeat (first | apply Kd.R_alloc | apply Kd.R_drewN | apply Kd.R_drew)); exact Kd.R_mono HO335.out (fun _ => pmothx11_1)⟩, ⟨by (with_reducible repeat (first | apply Kd.R_alloc | apply Kd.R_drewN | apply Kd.R_drew)); exact Kd.R_mono HO343.out (fun _ => pmothx11_1)⟩, ⟨by (with_reducible repeat (first | apply Kd.R_alloc | apply Kd.R_drewN | apply Kd.R_drew)); exact Kd.R_mono HO346.out (fun _ => pmothx11_1)⟩, ⟨by (with_reducible repeat (first | refine blk_drewN ?_ _ | refine blk_drew ?_ | refine blk_alloc ?_ _)); exact BK336.out⟩, ⟨by (with_reducible repeat (first | refine blk_drewN ?_ _ | refine blk_drew ?_ | refine blk_alloc ?_ _)); exact BK337.out⟩, ⟨by (with_reducible repeat (first | refine blk_drewN ?_ _ | refine blk_drew ?_ | refine blk_alloc ?_ _)); exact BK347.out⟩, ⟨by repeat (first | (with_reducible first | exact HB.out | apply below_alloc | apply pw_below_drewN | apply below_drew1 | refine below_set ?_ GE336.out | refine below_set ?_ GE337.out | refine below_set ?_ GE347.out) | exact HB.out)⟩⟩
   rw [if_pos c33] at H
   have c33b0 : (t340 == 0) = true := beq_iff_eq.mpr c33
   have c33b1 : (t340 != 0) = false := bne_eq_false_iff_eq.mpr c33
   clear c33
   (first | rw [c33b0] | (simp only [i64_w, i32_w]; rw [c33b0]) | rw [c33b1] | skip)
   have H' := Aside0.mk H
   clear H
   have hnb34 := NB347_336.out
   have hnc34 := NB336_347.out
   have hnb35 := NB347_337.out
   have hnc35 := NB337_347.out
   have hcz36_0 : w32.cell? ⟨gb347, 0, none⟩ = some (.int .i64 t338) := (blk_cell BK347.out 0).trans rfl
   have hcz36_1 : w32.cell? ⟨gb347, 1, none⟩ = some (.int .i64 t339) := (blk_cell BK347.out 1).trans rfl
   have hcz36_2 : w32.cell? ⟨gb347, 2, none⟩ = some (.int .i64 t340) := (blk_cell BK347.out 2).trans rfl
   have hcz36_3 : w32.cell? ⟨gb347, 3, none⟩ = some (.slice Ao25 t341.length co25) := (blk_cell BK347.out 3).trans rfl
   have hcz36_4 : w32.cell? ⟨gb347, 4, none⟩ = some (.slice Ao26 t344.length co26) := (blk_cell BK347.out 4).trans rfl
   have hfz36_0 := blk_frozen BK347.out 0
   have hfz36_1 := blk_frozen BK347.out 1
   have hfz36_2 := blk_frozen BK347.out 2
   have hfz36_3 := blk_frozen BK347.out 3
   have hfz36_4 := blk_frozen BK347.out 4
   go_wp2
   go_meet
   case rel => exact ⟨_, ((t338 == 0)), (by first | rfl | (simp; done) | (simp [*]; done)), H', ⟨by first | omega | exact Nat.le_refl _⟩, ⟨by (with_reducible repeat (first | apply Kd.R_alloc | apply Kd.R_drewN | apply Kd.R_drew)); exact Kd.R_mono HO323.out (fun _ => pmothx11_1)⟩, ⟨by (with_reducible repeat (first | apply Kd.R_alloc | apply Kd.R_drewN | apply Kd.R_drew)); exact Kd.R_mono HO326.out (fun _ => pmothx11_1)⟩, ⟨by (with_reducible repeat (first | apply Kd.R_alloc | apply Kd.R_drewN | apply Kd.R_drew)); exact Kd.R_mono HO332.out (fun _ => pmothx11_1)⟩, ⟨by (with_reducible repeat (first | apply Kd.R_alloc | apply Kd.R_drewN | apply Kd.R_drew)); exact Kd.R_mono HO335.out (fun _ => pmothx11_1)⟩, ⟨by (with_reducible repeat (first | apply Kd.R_alloc | apply Kd.R_drewN | apply Kd.R_drew)); exact Kd.R_mono HO343.out (fun _ => pmothx11_1)⟩, ⟨by (with_reducible repeat (first | apply Kd.R_alloc | apply Kd.R_drewN | apply Kd.R_drew)); exact Kd.R_mono HO346.out (fun _ => pmothx11_1)⟩, ⟨by (with_reducible repeat (first | refine blk_drewN ?_ _ | refine blk_drew ?_ | refine blk_alloc ?_ _)); exact BK336.out⟩, ⟨by (with_reducible repeat (first | refine blk_drewN ?_ _ | refine blk_drew ?_ | refine blk_alloc ?_ _)); exact BK337.out⟩, ⟨by (with_reducible repeat (first | refine blk_drewN ?_ _ | refine blk_drew ?_ | refine blk_alloc ?_ _)); exact BK347.out⟩, ⟨by repeat (first | (with_reducible first | exact HB.out | apply below_alloc | apply pw_below_drewN | apply below_drew1 | refine below_set ?_ GE336.out | refine below_set ?_ GE337.out | refine below_set ?_ GE347.out) | exact HB.out)⟩⟩
  case rest =>
   clear HC9
   try clear c1
   try clear c2
   try clear p2
   try clear c3
   try clear c8
   try clear c10
   try clear c13
   try clear c22
   try clear c23
   try clear c26
   try clear c29
   try clear c30
   try clear c31
   try clear c32
   try clear c33
   try clear c33b0
   try clear c33b1
   try clear c34
   try clear c35
   try clear c37
   try clear c38
   try clear hcz14_0
   try clear hcz14_1
   try clear hcz14_2
   try clear hcz14_3
   try clear hcz14_4
   try clear hcz17_0
   try clear hcz17_1
   try clear hcz17_2
   try clear hcz17_3
   try clear hcz17_4
   try clear hcz24_0
   try clear hcz24_1
   try clear hcz24_2
   try clear hcz24_3
   try clear hcz24_4
   try clear hcz36_0
   try clear hcz36_1
   try clear hcz36_2
   try clear hcz36_3
   try clear hcz36_4
   try clear hcz39_0
   try clear hcz39_1
   try clear hcz39_2
   try clear hcz39_3
   try clear hcz39_4
   try clear hfz14_0
   try clear hfz14_1
   try clear hfz14_2
   try clear hfz14_3
   try clear hfz14_4
   try clear hfz17_0
   try clear hfz17_1
   try clear hfz17_2
   try clear hfz17_3
   try clear hfz17_4
   try clear hfz24_0
   try clear hfz24_1
   try clear hfz24_2
   try clear hfz24_3
   try clear hfz24_4
   try clear hfz36_0
   try clear hfz36_1
   try clear hfz36_2
   try clear hfz36_3
   try clear hfz36_4
   try clear hfz39_0
   try clear hfz39_1
   try clear hfz39_2
   try clear hfz39_3
   try clear hfz39_4
   obtain ⟨kq, x32_8, rfl, HA, HJ8, HO_337003, HO_337004, HO_338003, HO_338004, HO_348003, HO_348004, BK336, BK337, BK347, HB⟩ := hcut
   cases kq with
   | zero => exact absurd HA.out (by simp [laws_FnBoth.j0])
   | succ kj8 =>
    have H := HA.out
    clear HA
    simp only [laws_FnBoth.j0] at H
    by_cases c40 : x32_8 = true
    rotate_left
    ·replace c40 := Bool.eq_false_iff.mpr c40
     subst c40
     have H1 : (laws_FnBoth.l0 kj8 0 t339 t318 t319 t320 t321 t324 t327 t328 t329 t330 t333 t338 t339 t340 t341 t344) = some true := by (first | (rw [if_neg (show ¬ (false = true) by decide)] at H; exact H) | rfl)
     clear H
     have H := H1
     clear H1
     have H' := Aside0.mk H
     clear H
     have hnb52 := NB347_336.out
     have hnc52 := NB336_347.out
     have hnb53 := NB347_337.out
     have hnc53 := NB337_347.out
     have hcz54_0 : wc.cell? ⟨gb347, 0, none⟩ = some (.int .i64 t338) := (blk_cell BK347.out 0).trans rfl
     have hcz54_1 : wc.cell? ⟨gb347, 1, none⟩ = some (.int .i64 t339) := (blk_cell BK347.out 1).trans rfl
     have hcz54_2 : wc.cell? ⟨gb347, 2, none⟩ = some (.int .i64 t340) := (blk_cell BK347.out 2).trans rfl
     have hcz54_3 : wc.cell? ⟨gb347, 3, none⟩ = some (.slice Ao25 t341.length co25) := (blk_cell BK347.out 3).trans rfl
     have hcz54_4 : wc.cell? ⟨gb347, 4, none⟩ = some (.slice Ao26 t344.length co26) := (blk_cell BK347.out 4).trans rfl
     have hfz54_0 := blk_frozen BK347.out 0
     have hfz54_1 := blk_frozen BK347.out 1
     have hfz54_2 := blk_frozen BK347.out 2
     have hfz54_3 := blk_frozen BK347.out 3
     have hfz54_4 := blk_frozen BK347.out 4
     go_wp2
     go_loopg [6, 7] kj8 (fun kq v6 v7 w' => ∃ (x6_2 : Int) (x7_2 : Int), v6 = .int .i64 x6_2 ∧ v7 = .int .i64 x7_2 ∧ Aside0 (laws_FnBoth.l0 kq x6_2 x7_2 t318 t319 t320 t321 t324 t327 t328 t329 t330 t333 t338 t339 t340 t341 t344 = some true) ∧ Aside0 (kq ≤ kj8) ∧ Aside0 (Kd.R (Kd.int .i64) 3 w' w.heap.size (fun k_ => some k_ ≠ ((.slice Ao16 t324.length co16) : Value).ownBlock ∧ some k_ ≠ ((.slice Ao18 t330.length co18) : Value).ownBlock ∧ some k_ ≠ ((.slice Ao19 t333.length co19) : Value).ownBlock ∧ some k_ ≠ ((.slice Ao25 t341.length co25) : Value).ownBlock ∧ some k_ ≠ ((.slice Ao26 t344.length co26) : Value).ownBlock) (.slice Ao15 t321.length co15) t321) ∧ Aside0 (Kd.R (Kd.int .i64) 3 w' w.heap.size (fun k_ => some k_ ≠ ((.slice Ao15 t321.length co15) : Value).ownBlock ∧ some k_ ≠ ((.slice Ao18 t330.length co18) : Value).ownBlock ∧ some k_ ≠ ((.slice Ao19 t333.length co19) : Value).ownBlock ∧ some k_ ≠ ((.slice Ao25 t341.length co25) : Value).ownBlock ∧ some k_ ≠ ((.slice Ao26 t344.length co26) : Value).ownBlock) (.slice Ao16 t324.length co16) t324) ∧ Aside0 (Kd.R (Kd.int .i64) 3 w' w.heap.size (fun k_ => some k_ ≠ ((.slice Ao15 t321.length co15) : Value).ownBlock ∧ some k_ ≠ ((.slice Ao16 t324.length co16) : Value).ownBlock ∧ some k_ ≠ ((.slice Ao19 t333.length co19) : Value).ownBlock ∧ some k_ ≠ ((.slice Ao25 t341.length co25) : Value).ownBlock ∧ some k_ ≠ ((.slice Ao26 t344.length co26) : Value).ownBlock) (.slice Ao18 t330.length co18) t330) ∧ Aside0 (Kd.R (Kd.int .i64) 3 w' w.heap.size (fun k_ => some k_ ≠ ((.slice Ao15 t321.length co15) : Value).ownBlock ∧ some k_ ≠ ((.slice Ao16 t324.length co16) : Value).ownBlock ∧ some k_ ≠ ((.slice Ao18 t330.length co18) : Value).ownBlock ∧ some k_ ≠ ((.slice Ao25 t341.length co25) : Value).ownBlock ∧ some k_ ≠ ((.slice Ao26 t344.length co26) : Value).ownBlock) (.slice Ao19 t333.length co19) t333) ∧ Aside0 (Kd.R (Kd.int .i64) 3 w' w.heap.size (fun k_ => some k_ ≠ ((.slice Ao15 t321.length co15) : Value).ownBlock ∧ some k_ ≠ ((.slice Ao16 t324.length co16) : Value).ownBlock ∧ some k_ ≠ ((.slice Ao18 t330.length co18) : Value).ownBlock ∧ some k_ ≠ ((.slice Ao19 t333.length co19) : Value).ownBlock ∧ some k_ ≠ ((.slice Ao26 t344.length co26) : Value).ownBlock) (.slice Ao25 t341.length co25) t341) ∧ Aside0 (Kd.R (Kd.int .i64) 3 w' w.heap.size (fun k_ => some k_ ≠ ((.slice Ao15 t321.length co15) : Value).ownBlock ∧ some k_ ≠ ((.slice Ao16 t324.length co16) : Value).ownBlock ∧ some k_ ≠ ((.slice Ao18 t330.length co18) : Value).ownBlock ∧ some k_ ≠ ((.slice Ao19 t333.length co19) : Value).ownBlock ∧ some k_ ≠ ((.slice Ao25 t341.length co25) : Value).ownBlock) (.slice Ao26 t344.length co26) t344) ∧ Aside0 (w'.heap[gb336]? = some (.cells #[.int .i64 t318, .int .i64 t319, .int .i64 t320, (.slice Ao15 t321.length co15), (.slice Ao16 t324.length co16)] 27 (0, 0))) ∧ Aside0 (w'.heap[gb337]? = some (.cells #[.int .i64 t327, .int .i64 t328, .int .i64 t329, (.slice Ao18 t330.length co18), (.slice Ao19 t333.length co19)] 27 (0, 0))) ∧ Aside0 (w'.heap[gb347]? = some (.cells #[.int .i64 t338, .int .i64 t339, .int .i64 t340, (.slice Ao25 t341.length co25), (.slice Ao26 t344.length co26)] 27 (0, 0))) ∧ Aside0 (Below w.heap.size w w'))
     case atStart => exact ⟨(0), (t339), (by first | rfl | (simp; done) | (simp [*]; done)), (by first | rfl | (simp; done) | (simp [*]; done)), H', ⟨Nat.le_refl _⟩, ⟨by (with_reducible repeat (first | apply Kd.R_alloc | apply Kd.R_drewN | apply Kd.R_drew)); exact HO_337003.out⟩, ⟨by (with_reducible repeat (first | apply Kd.R_alloc | apply Kd.R_drewN | apply Kd.R_drew)); exact HO_337004.out⟩, ⟨by (with_reducible repeat (first | apply Kd.R_alloc | apply Kd.R_drewN | apply Kd.R_drew)); exact HO_338003.out⟩, ⟨by (with_reducible repeat (first | apply Kd.R_alloc | apply Kd.R_drewN | apply Kd.R_drew)); exact HO_338004.out⟩, ⟨by (with_reducible repeat (first | apply Kd.R_alloc | apply Kd.R_drewN | apply Kd.R_drew)); exact HO_348003.out⟩, ⟨by (with_reducible repeat (first | apply Kd.R_alloc | apply Kd.R_drewN | apply Kd.R_drew)); exact HO_348004.out⟩, ⟨by (with_reducible repeat (first | refine blk_drewN ?_ _ | refine blk_drew ?_ | refine blk_alloc ?_ _)); exact BK336.out⟩, ⟨by (with_reducible repeat (first | refine blk_drewN ?_ _ | refine blk_drew ?_ | refine blk_alloc ?_ _)); exact BK337.out⟩, ⟨by (with_reducible repeat (first | refine blk_drewN ?_ _ | refine blk_drew ?_ | refine blk_alloc ?_ _)); exact BK347.out⟩, ⟨by repeat (first | (with_reducible first | exact HB.out | apply below_alloc | apply pw_below_drewN | apply below_drew1 | refine below_set ?_ GE336.out | refine below_set ?_ GE337.out | refine below_set ?_ GE347.out) | exact HB.out)⟩⟩
     case round =>
      clear H'
      try clear c1
      try clear c2
      try clear p2
      try clear c3
      try clear c4
      try clear c5
      try clear c8
      try clear c10
      try clear c13
      try clear c21
      try clear c22
      try clear c23
      try clear c26
      try clear c29
      try clear c30
      try clear c31
      try clear c32
      try clear c33
      try clear c33b0
      try clear c33b1
      try clear c34
      try clear c35
      try clear c37
      try clear c38
      try clear c40
      try clear c42
      try clear c42b0
      try clear c42b1
      try clear c43
      try clear c44
      try clear c47
      try clear c48
      try clear c52
      try clear c53
      try clear hcz14_0
      try clear hcz14_1
      try clear hcz14_2
      try clear hcz14_3
      try clear hcz14_4
      try clear hcz17_0
      try clear hcz17_1
      try clear hcz17_2
      try clear hcz17_3
      try clear hcz17_4
      try clear hcz24_0
      try clear hcz24_1
      try clear hcz24_2
      try clear hcz24_3
      try clear hcz24_4
      try clear hcz36_0
      try clear hcz36_1
      try clear hcz36_2
      try clear hcz36_3
      try clear hcz36_4
      try clear hcz39_0
      try clear hcz39_1
      try clear hcz39_2
      try clear hcz39_3
      try clear hcz39_4
      try clear hcz45_0
      try clear hcz45_1
      try clear hcz45_2
      try clear hcz45_3
      try clear hcz45_4
      try clear hcz49_0
      try clear hcz49_1
      try clear hcz49_2
      try clear hcz49_3
      try clear hcz49_4
      try clear hcz51_0
      try clear hcz51_1
      try clear hcz51_2
      try clear hcz51_3
      try clear hcz51_4
      try clear hcz54_0
      try clear hcz54_1
      try clear hcz54_2
      try clear hcz54_3
      try clear hcz54_4
      try clear hfz14_0
      try clear hfz14_1
      try clear hfz14_2
      try clear hfz14_3
      try clear hfz14_4
      try clear hfz17_0
      try clear hfz17_1
      try clear hfz17_2
      try clear hfz17_3
      try clear hfz17_4
      try clear hfz24_0
      try clear hfz24_1
      try clear hfz24_2
      try clear hfz24_3
      try clear hfz24_4
      try clear hfz36_0
      try clear hfz36_1
      try clear hfz36_2
      try clear hfz36_3
      try clear hfz36_4
      try clear hfz39_0
      try clear hfz39_1
      try clear hfz39_2
      try clear hfz39_3
      try clear hfz39_4
      try clear hfz45_0
      try clear hfz45_1
      try clear hfz45_2
      try clear hfz45_3
      try clear hfz45_4
      try clear hfz49_0
      try clear hfz49_1
      try clear hfz49_2
      try clear hfz49_3
      try clear hfz49_4
      try clear hfz51_0
      try clear hfz51_1
      try clear hfz51_2
      try clear hfz51_3
      try clear hfz51_4
      try clear hfz54_0
      try clear hfz54_1
      try clear hfz54_2
      try clear hfz54_3
      try clear hfz54_4
      try clear p2
      obtain ⟨x6_2, x7_2, rfl, rfl, HA, HK2, HO_337003, HO_337004, HO_338003, HO_338004, HO_348003, HO_348004, BK336, BK337, BK347, HB⟩ := hrel
      cases gk with
      | zero => exact absurd HA.out (by simp [laws_FnBoth.l0])
      | succ k2 =>
       have H := HA.out
       clear HA
       simp only [laws_FnBoth.l0] at H
       by_cases c55 : x7_2 ≤ t340
       rotate_left
       ·rw [if_neg c55] at H
        have c55b0 : decide (x7_2 ≤ t340) = false := decide_eq_false c55
        clear c55
        replace H := Option.bind_eq_some_iff.mp H
        obtain ⟨t359, A850, H⟩ := H
        try dsimp only at H
        have A85 := Aside0.mk A850
        clear A850
        by_cases c86 : t359 = x6_2
        rotate_left
        ·rw [if_neg c86] at H
         have c86b0 : (t359 == x6_2) = false := beq_eq_false_iff_ne.mpr c86
         have c86b1 : (t359 != x6_2) = true := bne_iff_ne.mpr c86
         exact absurd (Option.some.inj H) (by decide)
        rw [if_pos c86] at H
        have c86b0 : (t359 == x6_2) = true := beq_iff_eq.mpr c86
        have c86b1 : (t359 != x6_2) = false := bne_eq_false_iff_eq.mpr c86
        clear c86
        replace H := Option.bind_eq_some_iff.mp H
        obtain ⟨t360, A870, H⟩ := H
        replace H : (if t360 = true then (some false) else ((impl_RunsOn.f k2 t338 t339 t340 t341 t344 (wrap64 (t340 + 1))).bind fun t361 => (some (!t361)))) = some true := H
        have A87 := Aside0.mk A870
        clear A870
        by_cases c88 : t360 = true
        ·subst c88
         rw [if_pos rfl] at H
         exact absurd (Option.some.inj H) (by decide)
        ·replace c88 := Bool.eq_false_iff.mpr c88
         subst c88
         have H1 : ((impl_RunsOn.f k2 t338 t339 t340 t341 t344 (wrap64 (t340 + 1))).bind fun t361 => (some (!t361))) = some true := by (first | (rw [if_neg (show ¬ (false = true) by decide)] at H; exact H) | rfl)
         clear H
         have H := H1
         clear H1
         replace H := Option.bind_eq_some_iff.mp H
         obtain ⟨t361, A890, H⟩ := H
         replace H : (some (!t361)) = some true := H
         have A89 := Aside0.mk A890
         clear A890
         have HRT : (!t361) = true := Option.some.inj H
         have hnb90 := NB347_336.out
         have hnc90 := NB336_347.out
         have hnb91 := NB347_337.out
         have hnc91 := NB337_347.out
         have hcz92_0 : wr.cell? ⟨gb347, 0, none⟩ = some (.int .i64 t338) := (blk_cell BK347.out 0).trans rfl
         have hcz92_1 : wr.cell? ⟨gb347, 1, none⟩ = some (.int .i64 t339) := (blk_cell BK347.out 1).trans rfl
         have hcz92_2 : wr.cell? ⟨gb347, 2, none⟩ = some (.int .i64 t340) := (blk_cell BK347.out 2).trans rfl
         have hcz92_3 : wr.cell? ⟨gb347, 3, none⟩ = some (.slice Ao25 t341.length co25) := (blk_cell BK347.out 3).trans rfl
         have hcz92_4 : wr.cell? ⟨gb347, 4, none⟩ = some (.slice Ao26 t344.length co26) := (blk_cell BK347.out 4).trans rfl
         have hfz92_0 := blk_frozen BK347.out 0
         have hfz92_1 := blk_frozen BK347.out 1
         have hfz92_2 := blk_frozen BK347.out 2
         have hfz92_3 := blk_frozen BK347.out 3
         have hfz92_4 := blk_frozen BK347.out 4
         go_wp2_with (first | ((with_reducible refine gate_callee (f := 21) rfl ?_); refine goesL_ (some 66) rfl rfl Try.func21 (by kernel_rfl) rfl #[.agg #[.int .i64 t338, .int .i64 t339, .int .i64 t340, .slice Ao25 t341.length co25, .slice Ao26 t344.length co26]] rfl (by (try simp only [List.map_toArray, List.map_cons, List.map_nil]); first | done | rfl) ?_; (with_reducible refine (impl_Runs.calls k2 t338 t339 t340 _ _ t341 _ _ t344 t359 _ ?side1 ?side2 ?side3 ?side4 A85.out).mono ?_); (case side1 => exact (Kd.R_reads' HO_348003.out).2.2); (case side2 => exact (Kd.R_reads' HO_348003.out).2.1); (case side3 => exact (Kd.R_reads' HO_348004.out).2.2); (case side4 => exact (Kd.R_reads' HO_348004.out).2.1); rintro e w93 ⟨rfl, hb⟩; refine ⟨_, rfl, ?_⟩; replace HO_337003 := Aside0.mk (Kd.R_below HO_337003.out hb); replace HO_337004 := Aside0.mk (Kd.R_below HO_337004.out hb); replace HO_338003 := Aside0.mk (Kd.R_below HO_338003.out hb); replace HO_338004 := Aside0.mk (Kd.R_below HO_338004.out hb); replace HO_348003 := Aside0.mk (Kd.R_below HO_348003.out hb); replace HO_348004 := Aside0.mk (Kd.R_below HO_348004.out hb); replace BK336 := Aside0.mk (blk_below BK336.out hb); replace BK337 := Aside0.mk (blk_below BK337.out hb); replace BK347 := Aside0.mk (blk_below BK347.out hb); replace HB := Aside0.mk (below_step HB.out hb); (try clear hb); (try clear hb2); (try clear hk); (try clear hi); have hcz94_0 : w93.cell? ⟨gb347, 0, none⟩ = some (.int .i64 t338) := (blk_cell BK347.out 0).trans rfl; have hcz94_1 : w93.cell? ⟨gb347, 1, none⟩ = some (.int .i64 t339) := (blk_cell BK347.out 1).trans rfl; have hcz94_2 : w93.cell? ⟨gb347, 2, none⟩ = some (.int .i64 t340) := (blk_cell BK347.out 2).trans rfl; have hcz94_3 : w93.cell? ⟨gb347, 3, none⟩ = some (.slice Ao25 t341.length co25) := (blk_cell BK347.out 3).trans rfl; have hcz94_4 : w93.cell? ⟨gb347, 4, none⟩ = some (.slice Ao26 t344.length co26) := (blk_cell BK347.out 4).trans rfl; have hfz94_0 := blk_frozen BK347.out 0; have hfz94_1 := blk_frozen BK347.out 1; have hfz94_2 := blk_frozen BK347.out 2; have hfz94_3 := blk_frozen BK347.out 3; have hfz94_4 := blk_frozen BK347.out 4) | (go_at_call 17; (with_reducible refine (impl_RunsOn.calls k2 t338 t339 t340 _ _ t341 _ _ t344 (wrap64 (t339 - 1)) false _ ?side1 ?side2 ?side3 ?side4 A87.out).mono ?_); (case side1 => exact (Kd.R_reads' HO_348003.out).2.2); (case side2 => exact (Kd.R_reads' HO_348003.out).2.1); (case side3 => exact (Kd.R_reads' HO_348004.out).2.2); (case side4 => exact (Kd.R_reads' HO_348004.out).2.1); rintro e w95 ⟨rfl, hb⟩; replace HO_337003 := Aside0.mk (Kd.R_below HO_337003.out hb); replace HO_337004 := Aside0.mk (Kd.R_below HO_337004.out hb); replace HO_338003 := Aside0.mk (Kd.R_below HO_338003.out hb); replace HO_338004 := Aside0.mk (Kd.R_below HO_338004.out hb); replace HO_348003 := Aside0.mk (Kd.R_below HO_348003.out hb); replace HO_348004 := Aside0.mk (Kd.R_below HO_348004.out hb); replace BK336 := Aside0.mk (blk_below BK336.out hb); replace BK337 := Aside0.mk (blk_below BK337.out hb); replace BK347 := Aside0.mk (blk_below BK347.out hb); replace HB := Aside0.mk (below_step HB.out hb); (try clear hb); (try clear hb2); (try clear hk); (try clear hi); have hcz96_0 : w95.cell? ⟨gb347, 0, none⟩ = some (.int .i64 t338) := (blk_cell BK347.out 0).trans rfl; have hcz96_1 : w95.cell? ⟨gb347, 1, none⟩ = some (.int .i64 t339) := (blk_cell BK347.out 1).trans rfl; have hcz96_2 : w95.cell? ⟨gb347, 2, none⟩ = some (.int .i64 t340) := (blk_cell BK347.out 2).trans rfl; have hcz96_3 : w95.cell? ⟨gb347, 3, none⟩ = some (.slice Ao25 t341.length co25) := (blk_cell BK347.out 3).trans rfl; have hcz96_4 : w95.cell? ⟨gb347, 4, none⟩ = some (.slice Ao26 t344.length co26) := (blk_cell BK347.out 4).trans rfl; have hfz96_0 := blk_frozen BK347.out 0; have hfz96_1 := blk_frozen BK347.out 1; have hfz96_2 := blk_frozen BK347.out 2; have hfz96_3 := blk_frozen BK347.out 3; have hfz96_4 := blk_frozen BK347.out 4) | (go_at_call 17; (with_reducible refine (impl_RunsOn.calls k2 t338 t339 t340 _ _ t341 _ _ t344 (wrap64 (t340 + 1)) t361 _ ?side1 ?side2 ?side3 ?side4 A89.out).mono ?_); (case side1 => exact (Kd.R_reads' HO_348003.out).2.2); (case side2 => exact (Kd.R_reads' HO_348003.out).2.1); (case side3 => exact (Kd.R_reads' HO_348004.out).2.2); (case side4 => exact (Kd.R_reads' HO_348004.out).2.1); rintro e w97 ⟨rfl, hb⟩; replace HO_337003 := Aside0.mk (Kd.R_below HO_337003.out hb); replace HO_337004 := Aside0.mk (Kd.R_below HO_337004.out hb); replace HO_338003 := Aside0.mk (Kd.R_below HO_338003.out hb); replace HO_338004 := Aside0.mk (Kd.R_below HO_338004.out hb); replace HO_348003 := Aside0.mk (Kd.R_below HO_348003.out hb); replace HO_348004 := Aside0.mk (Kd.R_below HO_348004.out hb); replace BK336 := Aside0.mk (blk_below BK336.out hb); replace BK337 := Aside0.mk (blk_below BK337.out hb); replace BK347 := Aside0.mk (blk_below BK347.out hb); replace HB := Aside0.mk (below_step HB.out hb); (try clear hb); (try clear hb2); (try clear hk); (try clear hi)))
         go_ret
         exact ⟨by first | rfl | (simp [errW_none, errW_some] <;> rfl) | (simp [*, errW_none, errW_some] <;> rfl), by repeat (first | (with_reducible first | exact HB.out | apply below_alloc | apply pw_below_drewN | apply below_drew1 | refine below_set ?_ GE336.out | refine below_set ?_ GE337.out | refine below_set ?_ GE347.out) | exact HB.out)⟩
       rw [if_pos c55] at H
       have c55b0 : decide (x7_2 ≤ t340) = true := decide_eq_true c55
       clear c55
       have HC56 := Aside0.mk H
       clear H
       have hnb57 := NB347_336.out
       have hnc57 := NB336_347.out
       have hnb58 := NB347_337.out
       have hnc58 := NB337_347.out
       have hcz59_0 : wr.cell? ⟨gb347, 0, none⟩ = some (.int .i64 t338) := (blk_cell BK347.out 0).trans rfl
       have hcz59_1 : wr.cell? ⟨gb347, 1, none⟩ = some (.int .i64 t339) := (blk_cell BK347.out 1).trans rfl
       have hcz59_2 : wr.cell? ⟨gb347, 2, none⟩ = some (.int .i64 t340) := (blk_cell BK347.out 2).trans rfl
       have hcz59_3 : wr.cell? ⟨gb347, 3, none⟩ = some (.slice Ao25 t341.length co25) := (blk_cell BK347.out 3).trans rfl
       have hcz59_4 : wr.cell? ⟨gb347, 4, none⟩ = some (.slice Ao26 t344.length co26) := (blk_cell BK347.out 4).trans rfl
       have hfz59_0 := blk_frozen BK347.out 0
       have hfz59_1 := blk_frozen BK347.out 1
       have hfz59_2 := blk_frozen BK347.out 2
       have hfz59_3 := blk_frozen BK347.out 3
       have hfz59_4 := blk_frozen BK347.out 4
       go_upto_region 13 with (fail)
       go_cut [8] (fun v8 wc => ∃ (kq : Nat) (x8_55 : Bool), v8 = .bool x8_55 ∧ Aside0 (laws_FnBoth.j2 kq x6_2 x7_2 x8_55 t318 t319 t320 t321 t324 t327 t328 t329 t330 t333 t338 t339 t340 t341 t344 = some true) ∧ Aside0 (kq ≤ k2) ∧ Aside0 (Kd.R (Kd.int .i64) 3 wc w.heap.size (fun k_ => some k_ ≠ ((.slice Ao16 t324.length co16) : Value).ownBlock ∧ some k_ ≠ ((.slice Ao18 t330.length co18) : Value).ownBlock ∧ some k_ ≠ ((.slice Ao19 t333.length co19) : Value).ownBlock ∧ some k_ ≠ ((.slice Ao25 t341.length co25) : Value).ownBlock ∧ some k_ ≠ ((.slice Ao26 t344.length co26) : Value).ownBlock) (.slice Ao15 t321.length co15) t321) ∧ Aside0 (Kd.R (Kd.int .i64) 3 wc w.heap.size (fun k_ => some k_ ≠ ((.slice Ao15 t321.length co15) : Value).ownBlock ∧ some k_ ≠ ((.slice Ao18 t330.length co18) : Value).ownBlock ∧ some k_ ≠ ((.slice Ao19 t333.length co19) : Value).ownBlock ∧ some k_ ≠ ((.slice Ao25 t341.length co25) : Value).ownBlock ∧ some k_ ≠ ((.slice Ao26 t344.length co26) : Value).ownBlock) (.slice Ao16 t324.length co16) t324) ∧ Aside0 (Kd.R (Kd.int .i64) 3 wc w.heap.size (fun k_ => some k_ ≠ ((.slice Ao15 t321.length co15) : Value).ownBlock ∧ some k_ ≠ ((.slice Ao16 t324.length co16) : Value).ownBlock ∧ some k_ ≠ ((.slice Ao19 t333.length co19) : Value).ownBlock ∧ some k_ ≠ ((.slice Ao25 t341.length co25) : Value).ownBlock ∧ some k_ ≠ ((.slice Ao26 t344.length co26) : Value).ownBlock) (.slice Ao18 t330.length co18) t330) ∧ Aside0 (Kd.R (Kd.int .i64) 3 wc w.heap.size (fun k_ => some k_ ≠ ((.slice Ao15 t321.length co15) : Value).ownBlock ∧ some k_ ≠ ((.slice Ao16 t324.length co16) : Value).ownBlock ∧ some k_ ≠ ((.slice Ao18 t330.length co18) : Value).ownBlock ∧ some k_ ≠ ((.slice Ao25 t341.length co25) : Value).ownBlock ∧ some k_ ≠ ((.slice Ao26 t344.length co26) : Value).ownBlock) (.slice Ao19 t333.length co19) t333) ∧ Aside0 (Kd.R (Kd.int .i64) 3 wc w.heap.size (fun k_ => some k_ ≠ ((.slice Ao15 t321.length co15) : Value).ownBlock ∧ some k_ ≠ ((.slice Ao16 t324.length co16) : Value).ownBlock ∧ some k_ ≠ ((.slice Ao18 t330.length co18) : Value).ownBlock ∧ some k_ ≠ ((.slice Ao19 t333.length co19) : Value).ownBlock ∧ some k_ ≠ ((.slice Ao26 t344.length co26) : Value).ownBlock) (.slice Ao25 t341.length co25) t341) ∧ Aside0 (Kd.R (Kd.int .i64) 3 wc w.heap.size (fun k_ => some k_ ≠ ((.slice Ao15 t321.length co15) : Value).ownBlock ∧ some k_ ≠ ((.slice Ao16 t324.length co16) : Value).ownBlock ∧ some k_ ≠ ((.slice Ao18 t330.length co18) : Value).ownBlock ∧ some k_ ≠ ((.slice Ao19 t333.length co19) : Value).ownBlock ∧ some k_ ≠ ((.slice Ao25 t341.length co25) : Value).ownBlock) (.slice Ao26 t344.length co26) t344) ∧ Aside0 (wc.heap[gb336]? = some (.cells #[.int .i64 t318, .int .i64 t319, .int .i64 t320, (.slice Ao15 t321.length co15), (.slice Ao16 t324.length co16)] 27 (0, 0))) ∧ Aside0 (wc.heap[gb337]? = some (.cells #[.int .i64 t327, .int .i64 t328, .int .i64 t329, (.slice Ao18 t330.length co18), (.slice Ao19 t333.length co19)] 27 (0, 0))) ∧ Aside0 (wc.heap[gb347]? = some (.cells #[.int .i64 t338, .int .i64 t339, .int .i64 t340, (.slice Ao25 t341.length co25), (.slice Ao26 t344.length co26)] 27 (0, 0))) ∧ Aside0 (Below w.heap.size w wc))
       case first =>
        have H := HC56.out
        clear HC56
        replace H := Option.bind_eq_some_iff.mp H
        obtain ⟨t362, A600, H⟩ := H
        try dsimp only at H
        have A60 := Aside0.mk A600
        clear A600
        by_cases c61 : t362 = true
        rotate_left
        ·replace c61 := Bool.eq_false_iff.mpr c61
         subst c61
         have H1 : (laws_FnBoth.j2 k2 x6_2 x7_2 false t318 t319 t320 t321 t324 t327 t328 t329 t330 t333 t338 t339 t340 t341 t344) = some true := by (first | (rw [if_neg (show ¬ (false = true) by decide)] at H; exact H) | rfl)
         clear H
         have H := H1
         clear H1
         have H' := Aside0.mk H
         clear H
         have hnb70 := NB336_337.out
         have hnc70 := NB337_336.out
         have hnb71 := NB336_347.out
         have hnc71 := NB347_336.out
         have hcz72_0 : wr.cell? ⟨gb336, 0, none⟩ = some (.int .i64 t318) := (blk_cell BK336.out 0).trans rfl
         have hcz72_1 : wr.cell? ⟨gb336, 1, none⟩ = some (.int .i64 t319) := (blk_cell BK336.out 1).trans rfl
         have hcz72_2 : wr.cell? ⟨gb336, 2, none⟩ = some (.int .i64 t320) := (blk_cell BK336.out 2).trans rfl
         have hcz72_3 : wr.cell? ⟨gb336, 3, none⟩ = some (.slice Ao15 t321.length co15) := (blk_cell BK336.out 3).trans rfl
         have hcz72_4 : wr.cell? ⟨gb336, 4, none⟩ = some (.slice Ao16 t324.length co16) := (blk_cell BK336.out 4).trans rfl
         have hfz72_0 := blk_frozen BK336.out 0
         have hfz72_1 := blk_frozen BK336.out 1
         have hfz72_2 := blk_frozen BK336.out 2
         have hfz72_3 := blk_frozen BK336.out 3
         have hfz72_4 := blk_frozen BK336.out 4
         go_wp2_with (first | ((with_reducible refine gate_callee (f := 17) rfl ?_); refine goesL_ (some 51) rfl rfl Try.func17 (by kernel_rfl) rfl #[.agg #[.int .i64 t318, .int .i64 t319, .int .i64 t320, .slice Ao15 t321.length co15, .slice Ao16 t324.length co16], .int .i64 x7_2] rfl (by (try simp only [List.map_toArray, List.map_cons, List.map_nil]); first | done | rfl) ?_; (with_reducible refine (impl_RunsOn.calls k2 t318 t319 t320 _ _ t321 _ _ t324 x7_2 false _ ?side1 ?side2 ?side3 ?side4 A60.out).mono ?_); (case side1 => exact (Kd.R_reads' HO_337003.out).2.2); (case side2 => exact (Kd.R_reads' HO_337003.out).2.1); (case side3 => exact (Kd.R_reads' HO_337004.out).2.2); (case side4 => exact (Kd.R_reads' HO_337004.out).2.1); rintro e w73 ⟨rfl, hb⟩; refine ⟨_, rfl, ?_⟩; replace HO_337003 := Aside0.mk (Kd.R_below HO_337003.out hb); replace HO_337004 := Aside0.mk (Kd.R_below HO_337004.out hb); replace HO_338003 := Aside0.mk (Kd.R_below HO_338003.out hb); replace HO_338004 := Aside0.mk (Kd.R_below HO_338004.out hb); replace HO_348003 := Aside0.mk (Kd.R_below HO_348003.out hb); replace HO_348004 := Aside0.mk (Kd.R_below HO_348004.out hb); replace BK336 := Aside0.mk (blk_below BK336.out hb); replace BK337 := Aside0.mk (blk_below BK337.out hb); replace BK347 := Aside0.mk (blk_below BK347.out hb); replace HB := Aside0.mk (below_step HB.out hb); (try clear hb); (try clear hb2); (try clear hk); (try clear hi)))
         go_meet
         case rel => exact ⟨_, (false), (by first | rfl | (simp; done) | (simp [*]; done)), H', ⟨by have := HJ8.out; have := HK2.out; first | omega | exact Nat.le_refl _⟩, ⟨by (with_reducible repeat (first | apply Kd.R_alloc | apply Kd.R_drewN | apply Kd.R_drew)); exact HO_337003.out⟩, ⟨by (with_reducible repeat (first | apply Kd.R_alloc | apply Kd.R_drewN | apply Kd.R_drew)); exact HO_337004.out⟩, ⟨by (with_reducible repeat (first | apply Kd.R_alloc | apply Kd.R_drewN | apply Kd.R_drew)); exact HO_338003.out⟩, ⟨by (with_reducible repeat (first | apply Kd.R_alloc | apply Kd.R_drewN | apply Kd.R_drew)); exact HO_338004.out⟩, ⟨by (with_reducible repeat (first | apply Kd.R_alloc | apply Kd.R_drewN | apply Kd.R_drew)); exact HO_348003.out⟩, ⟨by (with_reducible repeat (first | apply Kd.R_alloc | apply Kd.R_drewN | apply Kd.R_drew)); exact HO_348004.out⟩, ⟨by (with_reducible repeat (first | refine blk_drewN ?_ _ | refine blk_drew ?_ | refine blk_alloc ?_ _)); exact BK336.out⟩, ⟨by (with_reducible repeat (first | refine blk_drewN ?_ _ | refine blk_drew ?_ | refine blk_alloc ?_ _)); exact BK337.out⟩, ⟨by (with_reducible repeat (first | refine blk_drewN ?_ _ | refine blk_drew ?_ | refine blk_alloc ?_ _)); exact BK347.out⟩, ⟨by repeat (first | (with_reducible first | exact HB.out | apply below_alloc | apply pw_below_drewN | apply below_drew1 | refine below_set ?_ GE336.out | refine below_set ?_ GE337.out | refine below_set ?_ GE347.out) | exact HB.out)⟩⟩
        subst c61
        rw [if_pos rfl] at H
        replace H := Option.bind_eq_some_iff.mp H
        obtain ⟨t363, A620, H⟩ := H
        replace H : (laws_FnBoth.j2 k2 x6_2 x7_2 t363 t318 t319 t320 t321 t324 t327 t328 t329 t330 t333 t338 t339 t340 t341 t344) = some true := H
        have A62 := Aside0.mk A620
        clear A620
        have H' := Aside0.mk H
        clear H
        have hnb63 := NB336_337.out
        have hnc63 := NB337_336.out
        have hnb64 := NB336_347.out
        have hnc64 := NB347_336.out
        have hcz65_0 : wr.cell? ⟨gb336, 0, none⟩ = some (.int .i64 t318) := (blk_cell BK336.out 0).trans rfl
        have hcz65_1 : wr.cell? ⟨gb336, 1, none⟩ = some (.int .i64 t319) := (blk_cell BK336.out 1).trans rfl
        have hcz65_2 : wr.cell? ⟨gb336, 2, none⟩ = some (.int .i64 t320) := (blk_cell BK336.out 2).trans rfl
        have hcz65_3 : wr.cell? ⟨gb336, 3, none⟩ = some (.slice Ao15 t321.length co15) := (blk_cell BK336.out 3).trans rfl
        have hcz65_4 : wr.cell? ⟨gb336, 4, none⟩ = some (.slice Ao16 t324.length co16) := (blk_cell BK336.out 4).trans rfl
        have hfz65_0 := blk_frozen BK336.out 0
        have hfz65_1 := blk_frozen BK336.out 1
        have hfz65_2 := blk_frozen BK336.out 2
        have hfz65_3 := blk_frozen BK336.out 3
        have hfz65_4 := blk_frozen BK336.out 4
        go_wp2_with (first | ((with_reducible refine gate_callee (f := 17) rfl ?_); refine goesL_ (some 51) rfl rfl Try.func17 (by kernel_rfl) rfl #[.agg #[.int .i64 t318, .int .i64 t319, .int .i64 t320, .slice Ao15 t321.length co15, .slice Ao16 t324.length co16], .int .i64 x7_2] rfl (by (try simp only [List.map_toArray, List.map_cons, List.map_nil]); first | done | rfl) ?_; (with_reducible refine (impl_RunsOn.calls k2 t318 t319 t320 _ _ t321 _ _ t324 x7_2 true _ ?side1 ?side2 ?side3 ?side4 A60.out).mono ?_); (case side1 => exact (Kd.R_reads' HO_337003.out).2.2); (case side2 => exact (Kd.R_reads' HO_337003.out).2.1); (case side3 => exact (Kd.R_reads' HO_337004.out).2.2); (case side4 => exact (Kd.R_reads' HO_337004.out).2.1); rintro e w66 ⟨rfl, hb⟩; refine ⟨_, rfl, ?_⟩; replace HO_337003 := Aside0.mk (Kd.R_below HO_337003.out hb); replace HO_337004 := Aside0.mk (Kd.R_below HO_337004.out hb); replace HO_338003 := Aside0.mk (Kd.R_below HO_338003.out hb); replace HO_338004 := Aside0.mk (Kd.R_below HO_338004.out hb); replace HO_348003 := Aside0.mk (Kd.R_below HO_348003.out hb); replace HO_348004 := Aside0.mk (Kd.R_below HO_348004.out hb); replace BK336 := Aside0.mk (blk_below BK336.out hb); replace BK337 := Aside0.mk (blk_below BK337.out hb); replace BK347 := Aside0.mk (blk_below BK347.out hb); replace HB := Aside0.mk (below_step HB.out hb); (try clear hb); (try clear hb2); (try clear hk); (try clear hi); have hnb67 := NB337_347.out; have hnc67 := NB347_337.out; have hcz68_0 : w66.cell? ⟨gb337, 0, none⟩ = some (.int .i64 t327) := (blk_cell BK337.out 0).trans rfl; have hcz68_1 : w66.cell? ⟨gb337, 1, none⟩ = some (.int .i64 t328) := (blk_cell BK337.out 1).trans rfl; have hcz68_2 : w66.cell? ⟨gb337, 2, none⟩ = some (.int .i64 t329) := (blk_cell BK337.out 2).trans rfl; have hcz68_3 : w66.cell? ⟨gb337, 3, none⟩ = some (.slice Ao18 t330.length co18) := (blk_cell BK337.out 3).trans rfl; have hcz68_4 : w66.cell? ⟨gb337, 4, none⟩ = some (.slice Ao19 t333.length co19) := (blk_cell BK337.out 4).trans rfl; have hfz68_0 := blk_frozen BK337.out 0; have hfz68_1 := blk_frozen BK337.out 1; have hfz68_2 := blk_frozen BK337.out 2; have hfz68_3 := blk_frozen BK337.out 3; have hfz68_4 := blk_frozen BK337.out 4) | (go_at_call 17; (with_reducible refine (impl_RunsOn.calls k2 t327 t328 t329 _ _ t330 _ _ t333 x7_2 t363 _ ?side1 ?side2 ?side3 ?side4 A62.out).mono ?_); (case side1 => exact (Kd.R_reads' HO_338003.out).2.2); (case side2 => exact (Kd.R_reads' HO_338003.out).2.1); (case side3 => exact (Kd.R_reads' HO_338004.out).2.2); (case side4 => exact (Kd.R_reads' HO_338004.out).2.1); rintro e w69 ⟨rfl, hb⟩; replace HO_337003 := Aside0.mk (Kd.R_below HO_337003.out hb); replace HO_337004 := Aside0.mk (Kd.R_below HO_337004.out hb); replace HO_338003 := Aside0.mk (Kd.R_below HO_338003.out hb); replace HO_338004 := Aside0.mk (Kd.R_below HO_338004.out hb); replace HO_348003 := Aside0.mk (Kd.R_below HO_348003.out hb); replace HO_348004 := Aside0.mk (Kd.R_below HO_348004.out hb); replace BK336 := Aside0.mk (blk_below BK336.out hb); replace BK337 := Aside0.mk (blk_below BK337.out hb); replace BK347 := Aside0.mk (blk_below BK347.out hb); replace HB := Aside0.mk (below_step HB.out hb); (try clear hb); (try clear hb2); (try clear hk); (try clear hi)))
        go_meet
        case rel => exact ⟨_, (t363), (by first | rfl | (simp; done) | (simp [*]; done)), H', ⟨by have := HJ8.out; have := HK2.out; first | omega | exact Nat.le_refl _⟩, ⟨by (with_reducible repeat (first | apply Kd.R_alloc | apply Kd.R_drewN | apply Kd.R_drew)); exact HO_337003.out⟩, ⟨by (with_reducible repeat (first | apply Kd.R_alloc | apply Kd.R_drewN | apply Kd.R_drew)); exact HO_337004.out⟩, ⟨by (with_reducible repeat (first | apply Kd.R_alloc | apply Kd.R_drewN | apply Kd.R_drew)); exact HO_338003.out⟩, ⟨by (with_reducible repeat (first | apply Kd.R_alloc | apply Kd.R_drewN | apply Kd.R_drew)); exact HO_338004.out⟩, ⟨by (with_reducible repeat (first | apply Kd.R_alloc | apply Kd.R_drewN | apply Kd.R_drew)); exact HO_348003.out⟩, ⟨by (with_reducible repeat (first | apply Kd.R_alloc | apply Kd.R_drewN | apply Kd.R_drew)); exact HO_348004.out⟩, ⟨by (with_reducible repeat (first | refine blk_drewN ?_ _ | refine blk_drew ?_ | refine blk_alloc ?_ _)); exact BK336.out⟩, ⟨by (with_reducible repeat (first | refine blk_drewN ?_ _ | refine blk_drew ?_ | refine blk_alloc ?_ _)); exact BK337.out⟩, ⟨by (with_reducible repeat (first | refine blk_drewN ?_ _ | refine blk_drew ?_ | refine blk_alloc ?_ _)); exact BK347.out⟩, ⟨by repeat (first | (with_reducible first | exact HB.out | apply below_alloc | apply pw_below_drewN | apply below_drew1 | refine below_set ?_ GE336.out | refine below_set ?_ GE337.out | refine below_set ?_ GE347.out) | exact HB.out)⟩⟩
       case rest =>
        clear HC56
        try clear c1
        try clear c2
        try clear p2
        try clear c3
        try clear c4
        try clear c5
        try clear c6
        try clear c7
        try clear c8
        try clear c10
        try clear c13
        try clear c17
        try clear c21
        try clear c22
        try clear c23
        try clear c26
        try clear c29
        try clear c30
        try clear c31
        try clear c32
        try clear c33
        try clear c33b0
        try clear c33b1
        try clear c34
        try clear c35
        try clear c37
        try clear c38
        try clear c40
        try clear c42
        try clear c42b0
        try clear c42b1
        try clear c43
        try clear c44
        try clear c47
        try clear c48
        try clear c52
        try clear c53
        try clear c55
        try clear c55b0
        try clear c57
        try clear c58
        try clear c61
        try clear c63
        try clear c64
        try clear c67
        try clear c70
        try clear c71
        try clear hcz14_0
        try clear hcz14_1
        try clear hcz14_2
        try clear hcz14_3
        try clear hcz14_4
        try clear hcz17_0
        try clear hcz17_1
        try clear hcz17_2
        try clear hcz17_3
        try clear hcz17_4
        try clear hcz24_0
        try clear hcz24_1
        try clear hcz24_2
        try clear hcz24_3
        try clear hcz24_4
        try clear hcz36_0
        try clear hcz36_1
        try clear hcz36_2
        try clear hcz36_3
        try clear hcz36_4
        try clear hcz39_0
        try clear hcz39_1
        try clear hcz39_2
        try clear hcz39_3
        try clear hcz39_4
        try clear hcz45_0
        try clear hcz45_1
        try clear hcz45_2
        try clear hcz45_3
        try clear hcz45_4
        try clear hcz49_0
        try clear hcz49_1
        try clear hcz49_2
        try clear hcz49_3
        try clear hcz49_4
        try clear hcz51_0
        try clear hcz51_1
        try clear hcz51_2
        try clear hcz51_3
        try clear hcz51_4
        try clear hcz54_0
        try clear hcz54_1
        try clear hcz54_2
        try clear hcz54_3
        try clear hcz54_4
        try clear hcz59_0
        try clear hcz59_1
        try clear hcz59_2
        try clear hcz59_3
        try clear hcz59_4
        try clear hcz65_0
        try clear hcz65_1
        try clear hcz65_2
        try clear hcz65_3
        try clear hcz65_4
        try clear hcz68_0
        try clear hcz68_1
        try clear hcz68_2
        try clear hcz68_3
        try clear hcz68_4
        try clear hcz72_0
        try clear hcz72_1
        try clear hcz72_2
        try clear hcz72_3
        try clear hcz72_4
        try clear hfz14_0
        try clear hfz14_1
        try clear hfz14_2
        try clear hfz14_3
        try clear hfz14_4
        try clear hfz17_0
        try clear hfz17_1
        try clear hfz17_2
        try clear hfz17_3
        try clear hfz17_4
        try clear hfz24_0
        try clear hfz24_1
        try clear hfz24_2
        try clear hfz24_3
        try clear hfz24_4
        try clear hfz36_0
        try clear hfz36_1
        try clear hfz36_2
        try clear hfz36_3
        try clear hfz36_4
        try clear hfz39_0
        try clear hfz39_1
        try clear hfz39_2
        try clear hfz39_3
        try clear hfz39_4
        try clear hfz45_0
        try clear hfz45_1
        try clear hfz45_2
        try clear hfz45_3
        try clear hfz45_4
        try clear hfz49_0
        try clear hfz49_1
        try clear hfz49_2
        try clear hfz49_3
        try clear hfz49_4
        try clear hfz51_0
        try clear hfz51_1
        try clear hfz51_2
        try clear hfz51_3
        try clear hfz51_4
        try clear hfz54_0
        try clear hfz54_1
        try clear hfz54_2
        try clear hfz54_3
        try clear hfz54_4
        try clear hfz59_0
        try clear hfz59_1
        try clear hfz59_2
        try clear hfz59_3
        try clear hfz59_4
        try clear hfz65_0
        try clear hfz65_1
        try clear hfz65_2
        try clear hfz65_3
        try clear hfz65_4
        try clear hfz68_0
        try clear hfz68_1
        try clear hfz68_2
        try clear hfz68_3
        try clear hfz68_4
        try clear hfz72_0
        try clear hfz72_1
        try clear hfz72_2
        try clear hfz72_3
        try clear hfz72_4
        try clear p2
        obtain ⟨kq, x8_55, rfl, HA, HJ55, HO_337003, HO_337004, HO_338003, HO_338004, HO_348003, HO_348004, BK336, BK337, BK347, HB⟩ := hcut
        cases kq with
        | zero => exact absurd HA.out (by simp [laws_FnBoth.j2])
        | succ kj55 =>
         have H := HA.out
         clear HA
         simp only [laws_FnBoth.j2] at H
         replace H := Option.bind_eq_some_iff.mp H
         obtain ⟨t364, A740, H⟩ := H
         try dsimp only at H
         have A74 := Aside0.mk A740
         clear A740
         by_cases c75 : (t364 != x8_55) = true
         ·rw [if_pos c75] at H
          have c75b0 : (t364 != x8_55) = true := c75
          (try (have c75b1 : decide (t364 = x8_55) = false := by simpa using c75))
          (try (have c75b2 : (t364 == x8_55) = false := by simpa using c75))
          (try (have c75b3 : ¬ (t364 = x8_55) := by simpa using c75))
          clear c75
          exact absurd (Option.some.inj H) (by decide)
         ·rw [if_neg c75] at H
          have c75b0 : (t364 != x8_55) = false := by simpa using c75
          (try (have c75b1 : decide (t364 = x8_55) = true := by simpa using c75))
          (try (have c75b2 : (t364 == x8_55) = true := by simpa using c75))
          clear c75
          by_cases c76 : x8_55 = true
          rotate_left
          ·replace c76 := Bool.eq_false_iff.mpr c76
           subst c76
           have H1 : (laws_FnBoth.l0 kj55 x6_2 (wrap64 (x7_2 + 1)) t318 t319 t320 t321 t324 t327 t328 t329 t330 t333 t338 t339 t340 t341 t344) = some true := by (first | (rw [if_neg (show ¬ (false = true) by decide)] at H; exact H) | rfl)
           clear H
           have H := H1
           clear H1
           have H' := Aside0.mk H
           clear H
           have hnb81 := NB347_336.out
           have hnc81 := NB336_347.out
           have hnb82 := NB347_337.out
           have hnc82 := NB337_347.out
           have hcz83_0 : wc.cell? ⟨gb347, 0, none⟩ = some (.int .i64 t338) := (blk_cell BK347.out 0).trans rfl
           have hcz83_1 : wc.cell? ⟨gb347, 1, none⟩ = some (.int .i64 t339) := (blk_cell BK347.out 1).trans rfl
           have hcz83_2 : wc.cell? ⟨gb347, 2, none⟩ = some (.int .i64 t340) := (blk_cell BK347.out 2).trans rfl
           have hcz83_3 : wc.cell? ⟨gb347, 3, none⟩ = some (.slice Ao25 t341.length co25) := (blk_cell BK347.out 3).trans rfl
           have hcz83_4 : wc.cell? ⟨gb347, 4, none⟩ = some (.slice Ao26 t344.length co26) := (blk_cell BK347.out 4).trans rfl
           have hfz83_0 := blk_frozen BK347.out 0
           have hfz83_1 := blk_frozen BK347.out 1
           have hfz83_2 := blk_frozen BK347.out 2
           have hfz83_3 := blk_frozen BK347.out 3
           have hfz83_4 := blk_frozen BK347.out 4
           go_wp2_with (first | ((with_reducible refine gate_callee (f := 17) rfl ?_); refine goesL_ (some 59) rfl rfl Try.func17 (by kernel_rfl) rfl #[.agg #[.int .i64 t338, .int .i64 t339, .int .i64 t340, .slice Ao25 t341.length co25, .slice Ao26 t344.length co26], .int .i64 x7_2] rfl (by (try simp only [List.map_toArray, List.map_cons, List.map_nil]); first | done | rfl) ?_; (with_reducible refine (impl_RunsOn.calls kj55 t338 t339 t340 _ _ t341 _ _ t344 x7_2 t364 _ ?side1 ?side2 ?side3 ?side4 A74.out).mono ?_); (case side1 => exact (Kd.R_reads' HO_348003.out).2.2); (case side2 => exact (Kd.R_reads' HO_348003.out).2.1); (case side3 => exact (Kd.R_reads' HO_348004.out).2.2); (case side4 => exact (Kd.R_reads' HO_348004.out).2.1); rintro e w84 ⟨rfl, hb⟩; refine ⟨_, rfl, ?_⟩; replace HO_337003 := Aside0.mk (Kd.R_below HO_337003.out hb); replace HO_337004 := Aside0.mk (Kd.R_below HO_337004.out hb); replace HO_338003 := Aside0.mk (Kd.R_below HO_338003.out hb); replace HO_338004 := Aside0.mk (Kd.R_below HO_338004.out hb); replace HO_348003 := Aside0.mk (Kd.R_below HO_348003.out hb); replace HO_348004 := Aside0.mk (Kd.R_below HO_348004.out hb); replace BK336 := Aside0.mk (blk_below BK336.out hb); replace BK337 := Aside0.mk (blk_below BK337.out hb); replace BK347 := Aside0.mk (blk_below BK347.out hb); replace HB := Aside0.mk (below_step HB.out hb); (try clear hb); (try clear hb2); (try clear hk); (try clear hi)))
           go_roundg kj55
           case measure => have := HJ8.out; have := HK2.out; have := HJ55.out; omega
           case rel => exact ⟨(x6_2), (wrap64 (x7_2 + 1)), (by first | rfl | (simp; done) | (simp [*]; done)), (by first | rfl | (simp; done) | (simp [*]; done)), H', ⟨by have := HJ8.out; have := HK2.out; have := HJ55.out; omega⟩, ⟨by (with_reducible repeat (first | apply Kd.R_alloc | apply Kd.R_drewN | apply Kd.R_drew)); exact HO_337003.out⟩, ⟨by (with_reducible repeat (first | apply Kd.R_alloc | apply Kd.R_drewN | apply Kd.R_drew)); exact HO_337004.out⟩, ⟨by (with_reducible repeat (first | apply Kd.R_alloc | apply Kd.R_drewN | apply Kd.R_drew)); exact HO_338003.out⟩, ⟨by (with_reducible repeat (first | apply Kd.R_alloc | apply Kd.R_drewN | apply Kd.R_drew)); exact HO_338004.out⟩, ⟨by (with_reducible repeat (first | apply Kd.R_alloc | apply Kd.R_drewN | apply Kd.R_drew)); exact HO_348003.out⟩, ⟨by (with_reducible repeat (first | apply Kd.R_alloc | apply Kd.R_drewN | apply Kd.R_drew)); exact HO_348004.out⟩, ⟨by (with_reducible repeat (first | refine blk_drewN ?_ _ | refine blk_drew ?_ | refine blk_alloc ?_ _)); exact BK336.out⟩, ⟨by (with_reducible repeat (first | refine blk_drewN ?_ _ | refine blk_drew ?_ | refine blk_alloc ?_ _)); exact BK337.out⟩, ⟨by (with_reducible repeat (first | refine blk_drewN ?_ _ | refine blk_drew ?_ | refine blk_alloc ?_ _)); exact BK347.out⟩, ⟨by repeat (first | (with_reducible first | exact HB.out | apply below_alloc | apply pw_below_drewN | apply below_drew1 | refine below_set ?_ GE336.out | refine below_set ?_ GE337.out | refine below_set ?_ GE347.out) | exact HB.out)⟩⟩
          subst c76
          rw [if_pos rfl] at H
          have H' := Aside0.mk H
          clear H
          have hnb77 := NB347_336.out
          have hnc77 := NB336_347.out
          have hnb78 := NB347_337.out
          have hnc78 := NB337_347.out
          have hcz79_0 : wc.cell? ⟨gb347, 0, none⟩ = some (.int .i64 t338) := (blk_cell BK347.out 0).trans rfl
          have hcz79_1 : wc.cell? ⟨gb347, 1, none⟩ = some (.int .i64 t339) := (blk_cell BK347.out 1).trans rfl
          have hcz79_2 : wc.cell? ⟨gb347, 2, none⟩ = some (.int .i64 t340) := (blk_cell BK347.out 2).trans rfl
          have hcz79_3 : wc.cell? ⟨gb347, 3, none⟩ = some (.slice Ao25 t341.length co25) := (blk_cell BK347.out 3).trans rfl
          have hcz79_4 : wc.cell? ⟨gb347, 4, none⟩ = some (.slice Ao26 t344.length co26) := (blk_cell BK347.out 4).trans rfl
          have hfz79_0 := blk_frozen BK347.out 0
          have hfz79_1 := blk_frozen BK347.out 1
          have hfz79_2 := blk_frozen BK347.out 2
          have hfz79_3 := blk_frozen BK347.out 3
          have hfz79_4 := blk_frozen BK347.out 4
          go_wp2_with (first | ((with_reducible refine gate_callee (f := 17) rfl ?_); refine goesL_ (some 59) rfl rfl Try.func17 (by kernel_rfl) rfl #[.agg #[.int .i64 t338, .int .i64 t339, .int .i64 t340, .slice Ao25 t341.length co25, .slice Ao26 t344.length co26], .int .i64 x7_2] rfl (by (try simp only [List.map_toArray, List.map_cons, List.map_nil]); first | done | rfl) ?_; (with_reducible refine (impl_RunsOn.calls kj55 t338 t339 t340 _ _ t341 _ _ t344 x7_2 t364 _ ?side1 ?side2 ?side3 ?side4 A74.out).mono ?_); (case side1 => exact (Kd.R_reads' HO_348003.out).2.2); (case side2 => exact (Kd.R_reads' HO_348003.out).2.1); (case side3 => exact (Kd.R_reads' HO_348004.out).2.2); (case side4 => exact (Kd.R_reads' HO_348004.out).2.1); rintro e w80 ⟨rfl, hb⟩; refine ⟨_, rfl, ?_⟩; replace HO_337003 := Aside0.mk (Kd.R_below HO_337003.out hb); replace HO_337004 := Aside0.mk (Kd.R_below HO_337004.out hb); replace HO_338003 := Aside0.mk (Kd.R_below HO_338003.out hb); replace HO_338004 := Aside0.mk (Kd.R_below HO_338004.out hb); replace HO_348003 := Aside0.mk (Kd.R_below HO_348003.out hb); replace HO_348004 := Aside0.mk (Kd.R_below HO_348004.out hb); replace BK336 := Aside0.mk (blk_below BK336.out hb); replace BK337 := Aside0.mk (blk_below BK337.out hb); replace BK347 := Aside0.mk (blk_below BK347.out hb); replace HB := Aside0.mk (below_step HB.out hb); (try clear hb); (try clear hb2); (try clear hk); (try clear hi)))
          go_roundg kj55
          case measure => have := HJ8.out; have := HK2.out; have := HJ55.out; omega
          case rel => exact ⟨(wrap64 (x6_2 + 1)), (wrap64 (x7_2 + 1)), (by first | rfl | (simp; done) | (simp [*]; done)), (by first | rfl | (simp; done) | (simp [*]; done)), H', ⟨by have := HJ8.out; have := HK2.out; have := HJ55.out; omega⟩, ⟨by (with_reducible repeat (first | apply Kd.R_alloc | apply Kd.R_drewN | apply Kd.R_drew)); exact HO_337003.out⟩, ⟨by (with_reducible repeat (first | apply Kd.R_alloc | apply Kd.R_drewN | apply Kd.R_drew)); exact HO_337004.out⟩, ⟨by (with_reducible repeat (first | apply Kd.R_alloc | apply Kd.R_drewN | apply Kd.R_drew)); exact HO_338003.out⟩, ⟨by (with_reducible repeat (first | apply Kd.R_alloc | apply Kd.R_drewN | apply Kd.R_drew)); exact HO_338004.out⟩, ⟨by (with_reducible repeat (first | apply Kd.R_alloc | apply Kd.R_drewN | apply Kd.R_drew)); exact HO_348003.out⟩, ⟨by (with_reducible repeat (first | apply Kd.R_alloc | apply Kd.R_drewN | apply Kd.R_drew)); exact HO_348004.out⟩, ⟨by (with_reducible repeat (first | refine blk_drewN ?_ _ | refine blk_drew ?_ | refine blk_alloc ?_ _)); exact BK336.out⟩, ⟨by (with_reducible repeat (first | refine blk_drewN ?_ _ | refine blk_drew ?_ | refine blk_alloc ?_ _)); exact BK337.out⟩, ⟨by (with_reducible repeat (first | refine blk_drewN ?_ _ | refine blk_drew ?_ | refine blk_alloc ?_ _)); exact BK347.out⟩, ⟨by repeat (first | (with_reducible first | exact HB.out | apply below_alloc | apply pw_below_drewN | apply below_drew1 | refine below_set ?_ GE336.out | refine below_set ?_ GE337.out | refine below_set ?_ GE347.out) | exact HB.out)⟩⟩
    subst c40
    rw [if_pos rfl] at H
    replace H := Option.bind_eq_some_iff.mp H
    obtain ⟨t358, A410, H⟩ := H
    replace H : (if t358 = 0 then (some true) else (some (t339 == 0))) = some true := H
    have A41 := Aside0.mk A410
    clear A410
    by_cases c42 : t358 = 0
    rotate_left
    ·rw [if_neg c42] at H
     have c42b0 : (t358 == 0) = false := beq_eq_false_iff_ne.mpr c42
     have c42b1 : (t358 != 0) = true := bne_iff_ne.mpr c42
     have HRT : ((t339 == 0)) = true := Option.some.inj H
     have hnb47 := NB347_336.out
     have hnc47 := NB336_347.out
     have hnb48 := NB347_337.out
     have hnc48 := NB337_347.out
     have hcz49_0 : wc.cell? ⟨gb347, 0, none⟩ = some (.int .i64 t338) := (blk_cell BK347.out 0).trans rfl
     have hcz49_1 : wc.cell? ⟨gb347, 1, none⟩ = some (.int .i64 t339) := (blk_cell BK347.out 1).trans rfl
     have hcz49_2 : wc.cell? ⟨gb347, 2, none⟩ = some (.int .i64 t340) := (blk_cell BK347.out 2).trans rfl
     have hcz49_3 : wc.cell? ⟨gb347, 3, none⟩ = some (.slice Ao25 t341.length co25) := (blk_cell BK347.out 3).trans rfl
     have hcz49_4 : wc.cell? ⟨gb347, 4, none⟩ = some (.slice Ao26 t344.length co26) := (blk_cell BK347.out 4).trans rfl
     have hfz49_0 := blk_frozen BK347.out 0
     have hfz49_1 := blk_frozen BK347.out 1
     have hfz49_2 := blk_frozen BK347.out 2
     have hfz49_3 := blk_frozen BK347.out 3
     have hfz49_4 := blk_frozen BK347.out 4
     go_wp2_with (first | ((with_reducible refine gate_callee (f := 21) rfl ?_); refine goesL_ (some 34) rfl rfl Try.func21 (by kernel_rfl) rfl #[.agg #[.int .i64 t338, .int .i64 t339, .int .i64 t340, .slice Ao25 t341.length co25, .slice Ao26 t344.length co26]] rfl (by (try simp only [List.map_toArray, List.map_cons, List.map_nil]); first | done | rfl) ?_; (with_reducible refine (impl_Runs.calls kj8 t338 t339 t340 _ _ t341 _ _ t344 t358 _ ?side1 ?side2 ?side3 ?side4 A41.out).mono ?_); (case side1 => exact (Kd.R_reads' HO_348003.out).2.2); (case side2 => exact (Kd.R_reads' HO_348003.out).2.1); (case side3 => exact (Kd.R_reads' HO_348004.out).2.2); (case side4 => exact (Kd.R_reads' HO_348004.out).2.1); rintro e w50 ⟨rfl, hb⟩; refine ⟨_, rfl, ?_⟩; replace HO_337003 := Aside0.mk (Kd.R_below HO_337003.out hb); replace HO_337004 := Aside0.mk (Kd.R_below HO_337004.out hb); replace HO_338003 := Aside0.mk (Kd.R_below HO_338003.out hb); replace HO_338004 := Aside0.mk (Kd.R_below HO_338004.out hb); replace HO_348003 := Aside0.mk (Kd.R_below HO_348003.out hb); replace HO_348004 := Aside0.mk (Kd.R_below HO_348004.out hb); replace BK336 := Aside0.mk (blk_below BK336.out hb); replace BK337 := Aside0.mk (blk_below BK337.out hb); replace BK347 := Aside0.mk (blk_below BK347.out hb); replace HB := Aside0.mk (below_step HB.out hb); (try clear hb); (try clear hb2); (try clear hk); (try clear hi); have hcz51_0 : w50.cell? ⟨gb347, 0, none⟩ = some (.int .i64 t338) := (blk_cell BK347.out 0).trans rfl; have hcz51_1 : w50.cell? ⟨gb347, 1, none⟩ = some (.int .i64 t339) := (blk_cell BK347.out 1).trans rfl; have hcz51_2 : w50.cell? ⟨gb347, 2, none⟩ = some (.int .i64 t340) := (blk_cell BK347.out 2).trans rfl; have hcz51_3 : w50.cell? ⟨gb347, 3, none⟩ = some (.slice Ao25 t341.length co25) := (blk_cell BK347.out 3).trans rfl; have hcz51_4 : w50.cell? ⟨gb347, 4, none⟩ = some (.slice Ao26 t344.length co26) := (blk_cell BK347.out 4).trans rfl; have hfz51_0 := blk_frozen BK347.out 0; have hfz51_1 := blk_frozen BK347.out 1; have hfz51_2 := blk_frozen BK347.out 2; have hfz51_3 := blk_frozen BK347.out 3; have hfz51_4 := blk_frozen BK347.out 4))
     go_ret
     exact ⟨by first | rfl | (simp [errW_none, errW_some] <;> rfl) | (simp [*, errW_none, errW_some] <;> rfl), by repeat (first | (with_reducible first | exact HB.out | apply below_alloc | apply pw_below_drewN | apply below_drew1 | refine below_set ?_ GE336.out | refine below_set ?_ GE337.out | refine below_set ?_ GE347.out) | exact HB.out)⟩
    rw [if_pos c42] at H
    have c42b0 : (t358 == 0) = true := beq_iff_eq.mpr c42
    have c42b1 : (t358 != 0) = false := bne_eq_false_iff_eq.mpr c42
    clear c42
    clear H
    have hnb43 := NB347_336.out
    have hnc43 := NB336_347.out
    have hnb44 := NB347_337.out
    have hnc44 := NB337_347.out
    have hcz45_0 : wc.cell? ⟨gb347, 0, none⟩ = some (.int .i64 t338) := (blk_cell BK347.out 0).trans rfl
    have hcz45_1 : wc.cell? ⟨gb347, 1, none⟩ = some (.int .i64 t339) := (blk_cell BK347.out 1).trans rfl
    have hcz45_2 : wc.cell? ⟨gb347, 2, none⟩ = some (.int .i64 t340) := (blk_cell BK347.out 2).trans rfl
    have hcz45_3 : wc.cell? ⟨gb347, 3, none⟩ = some (.slice Ao25 t341.length co25) := (blk_cell BK347.out 3).trans rfl
    have hcz45_4 : wc.cell? ⟨gb347, 4, none⟩ = some (.slice Ao26 t344.length co26) := (blk_cell BK347.out 4).trans rfl
    have hfz45_0 := blk_frozen BK347.out 0
    have hfz45_1 := blk_frozen BK347.out 1
    have hfz45_2 := blk_frozen BK347.out 2
    have hfz45_3 := blk_frozen BK347.out 3
    have hfz45_4 := blk_frozen BK347.out 4
    go_wp2_with (first | ((with_reducible refine gate_callee (f := 21) rfl ?_); refine goesL_ (some 34) rfl rfl Try.func21 (by kernel_rfl) rfl #[.agg #[.int .i64 t338, .int .i64 t339, .int .i64 t340, .slice Ao25 t341.length co25, .slice Ao26 t344.length co26]] rfl (by (try simp only [List.map_toArray, List.map_cons, List.map_nil]); first | done | rfl) ?_; (with_reducible refine (impl_Runs.calls kj8 t338 t339 t340 _ _ t341 _ _ t344 t358 _ ?side1 ?side2 ?side3 ?side4 A41.out).mono ?_); (case side1 => exact (Kd.R_reads' HO_348003.out).2.2); (case side2 => exact (Kd.R_reads' HO_348003.out).2.1); (case side3 => exact (Kd.R_reads' HO_348004.out).2.2); (case side4 => exact (Kd.R_reads' HO_348004.out).2.1); rintro e w46 ⟨rfl, hb⟩; refine ⟨_, rfl, ?_⟩; replace HO_337003 := Aside0.mk (Kd.R_below HO_337003.out hb); replace HO_337004 := Aside0.mk (Kd.R_below HO_337004.out hb); replace HO_338003 := Aside0.mk (Kd.R_below HO_338003.out hb); replace HO_338004 := Aside0.mk (Kd.R_below HO_338004.out hb); replace HO_348003 := Aside0.mk (Kd.R_below HO_348003.out hb); replace HO_348004 := Aside0.mk (Kd.R_below HO_348004.out hb); replace BK336 := Aside0.mk (blk_below BK336.out hb); replace BK337 := Aside0.mk (blk_below BK337.out hb); replace BK347 := Aside0.mk (blk_below BK347.out hb); replace HB := Aside0.mk (below_step HB.out hb); (try clear hb); (try clear hb2); (try clear hk); (try clear hi)))
    go_ret
    exact ⟨by first | rfl | (simp [errW_none, errW_some] <;> rfl) | (simp [*, errW_none, errW_some] <;> rfl), by repeat (first | (with_reducible first | exact HB.out | apply below_alloc | apply pw_below_drewN | apply below_drew1 | refine below_set ?_ GE336.out | refine below_set ?_ GE337.out | refine below_set ?_ GE347.out) | exact HB.out)⟩
 subst c3
 rw [if_pos rfl] at H
 clear H
 go_enter Try.func10, Try.ntmps10
 go_wp2_with (first | ((with_reducible refine gate_callee (f := 26) rfl ?_); refine goesL_ (some 10) rfl rfl Try.func26 (by kernel_rfl) rfl #[.slice A0 l0.length c0] rfl (by (try simp only [List.map_toArray, List.map_cons, List.map_nil]); first | done | rfl) ?_; (with_reducible refine (laws_big.calls _ _ l0 true _ ?side1 ?side2 A2.out).mono ?_); (case side1 => exact HR0.out); (case side2 => exact HC0.out); rintro e w' ⟨rfl, ⟨nd, rfl⟩⟩; refine ⟨_, rfl, ?_⟩))
 go_ret
 exact ⟨by first | rfl | (simp [errW_none, errW_some] <;> rfl) | (simp [*, errW_none, errW_some] <;> rfl), by repeat (first | (with_reducible first | exact HB.out | apply below_alloc | apply pw_below_drewN | apply below_drew1) | exact HB.out)⟩
/-- THE ONE PURE STATEMENT of laws_FnBoth: yours. -/
def laws_FnBoth.Pure : Prop := ∀ (l0 : List Int), l0.length ≤ maxLen → l0.length * 1 ≤ 140737488351232 → (∀ x ∈ l0, (Lit.int .u8 x).wf = true) → ∃ k, laws_FnBoth.f k l0 = some true
theorem laws_FnBoth.walk (P : laws_FnBoth.Pure) (a0 : Option Addr) (len0 cap0 : Nat) (z0 : List Int) (w : World) (w0 : (a0 = none ∧ len0 = 0 ∧ cap0 = 0 ∧ z0 = []) ∨ ∃ x, a0 = some x ∧ len0 ≤ cap0 ∧ cap0 ≤ maxLen ∧ z0.length = cap0 ∧ (∀ i, i < z0.length → w.cell? (x.add i) = some (.int .u8 (z0.getD i 0))) ∧ ∀ n ∈ z0, (Lit.int .u8 n).wf = true) (y0 : len0 * 1 ≤ 140737488351232) :
  Calls Try.prog 10 #[.slice a0 len0 cap0] w fun e w' => e = .returned (.bool true) ∧ Below w.heap.size w w' := by
 obtain ⟨l0, rfl, hr0, hm0, hw0, hc0⟩ := ReadsInt.ofRowC w0
 obtain ⟨k, h⟩ := P l0 hm0 y0 hw0
 refine (laws_FnBoth.calls k _ _ l0 w (Kd.C_of_reads (d := (0 : Int)) (h1 := fun _ => rfl) hr0) hc0 h).mono ?_
 rintro e w' ⟨rfl, hd⟩
 exact ⟨rfl, hd⟩

end Go.Proofs.Ytgjhlkjfdlkndaa.PFnBoth
