-- Written by a program of this session (wip/tools/fltprint.py: the kit's printer, taught more).
import Derived.Test.YtgjhlkjfdlkndaaPFnExactBothx0
import Derived.Test.YtgjhlkjfdlkndaaPFnExactBothx1
import Derived.Test.YtgjhlkjfdlkndaaPFnExactBothx5
import Derived.Test.YtgjhlkjfdlkndaaPFnExactBothx7
namespace Go.Proofs.Ytgjhlkjfdlkndaa.PFnExactBoth
open Go.RowKit Go.Proofs.YtgjhlkjfdlkndaaW.PrintWords Go.Proofs.YtgjhlkjfdlkndaaW.PrintLast Go.Proofs.YtgjhlkjfdlkndaaW.PrintMore
attribute [local go_sem] max2_int min2_int max_two min_two max_three min_three max_four min_four   -- for this text's walks alone
set_option linter.unusedVariables false
set_option linter.unusedSimpArgs false
abbrev Nb_ {α : Type} (k : Nat) (A : Option Addr) (l : List α) (c : Nat) : Prop := some k ≠ (Value.slice A l.length c).ownBlock
abbrev Nv_ (k : Nat) (v : Value) : Prop := some k ≠ v.ownBlock
theorem pmBothx8_0 {a0 a1 a2 a3 a4 : Prop} (hk : ((((a0 ∧ a1) ∧ a2) ∧ a3) ∧ a4)) : (a0 ∧ (a1 ∧ (a2 ∧ (a3 ∧ a4)))) := ⟨hk.1.1.1.1, ⟨hk.1.1.1.2, ⟨hk.1.1.2, ⟨hk.1.2, hk.2⟩⟩⟩⟩
theorem pmBothx8_1 {a0 a1 a2 a3 a4 : Prop} (hk : ((((a0 ∧ a1) ∧ a2) ∧ a3) ∧ a4)) : (a1 ∧ (a2 ∧ (a0 ∧ (a3 ∧ a4)))) := ⟨hk.1.1.1.2, ⟨hk.1.1.2, ⟨hk.1.1.1.1, ⟨hk.1.2, hk.2⟩⟩⟩⟩
theorem pmBothx8_2 {a0 a1 a2 a3 a4 : Prop} (hk : ((((a0 ∧ a1) ∧ a2) ∧ a3) ∧ a4)) : (a1 ∧ (a2 ∧ (a3 ∧ (a4 ∧ a0)))) := ⟨hk.1.1.1.2, ⟨hk.1.1.2, ⟨hk.1.2, ⟨hk.2, hk.1.1.1.1⟩⟩⟩⟩
theorem pmBothx8_3 {a0 a1 a2 a3 a4 a5 a6 a7 : Prop} (hk_ : ((a0 ∧ (a1 ∧ (a2 ∧ (a3 ∧ (a4 ∧ (a5 ∧ a6)))))) ∧ a7)) : (a0 ∧ a1 ∧ a2 ∧ a3 ∧ a4 ∧ a5 ∧ a6) := ⟨hk_.1.1, hk_.1.2.1, hk_.1.2.2.1, hk_.1.2.2.2.1, hk_.1.2.2.2.2.1, hk_.1.2.2.2.2.2.1, hk_.1.2.2.2.2.2.2⟩
theorem pmBothx8_4 {a0 a1 a2 a3 a4 a5 a6 a7 a8 a9 a10 a11 a12 : Prop} (hk : (((((((a0 ∧ (a1 ∧ (a2 ∧ (a3 ∧ (a4 ∧ (a5 ∧ a6)))))) ∧ a7) ∧ a8) ∧ a9) ∧ a10) ∧ a11) ∧ a12)) : (a0 ∧ (a1 ∧ (a2 ∧ (a3 ∧ (a4 ∧ (a5 ∧ (a6 ∧ (a7 ∧ (a8 ∧ (a9 ∧ (a10 ∧ (a11 ∧ a12)))))))))))) := ⟨hk.1.1.1.1.1.1.1, ⟨hk.1.1.1.1.1.1.2.1, ⟨hk.1.1.1.1.1.1.2.2.1, ⟨hk.1.1.1.1.1.1.2.2.2.1, ⟨hk.1.1.1.1.1.1.2.2.2.2.1, ⟨hk.1.1.1.1.1.1.2.2.2.2.2.1, ⟨hk.1.1.1.1.1.1.2.2.2.2.2.2, ⟨hk.1.1.1.1.1.2, ⟨hk.1.1.1.1.2, ⟨hk.1.1.1.2, ⟨hk.1.1.2, ⟨hk.1.2, hk.2⟩⟩⟩⟩⟩⟩⟩⟩⟩⟩⟩⟩
theorem pmBothx8_5 {a0 a1 a2 a3 a4 a5 a6 a7 a8 a9 a10 a11 a12 : Prop} (hk : ((((((((((((a0 ∧ a1) ∧ a2) ∧ a3) ∧ a4) ∧ a5) ∧ a6) ∧ a7) ∧ a8) ∧ a9) ∧ a10) ∧ a11) ∧ a12)) : (a1 ∧ (a2 ∧ (a3 ∧ (a4 ∧ (a5 ∧ (a6 ∧ (a7 ∧ (a8 ∧ (a0 ∧ (a9 ∧ (a10 ∧ (a11 ∧ a12)))))))))))) := ⟨hk.1.1.1.1.1.1.1.1.1.1.1.2, ⟨hk.1.1.1.1.1.1.1.1.1.1.2, ⟨hk.1.1.1.1.1.1.1.1.1.2, ⟨hk.1.1.1.1.1.1.1.1.2, ⟨hk.1.1.1.1.1.1.1.2, ⟨hk.1.1.1.1.1.1.2, ⟨hk.1.1.1.1.1.2, ⟨hk.1.1.1.1.2, ⟨hk.1.1.1.1.1.1.1.1.1.1.1.1, ⟨hk.1.1.1.2, ⟨hk.1.1.2, ⟨hk.1.2, hk.2⟩⟩⟩⟩⟩⟩⟩⟩⟩⟩⟩⟩
theorem pmBothx8_6 {a0 a1 a2 a3 a4 a5 a6 a7 a8 a9 a10 a11 a12 : Prop} (hk : ((((((((((((a0 ∧ a1) ∧ a2) ∧ a3) ∧ a4) ∧ a5) ∧ a6) ∧ a7) ∧ a8) ∧ a9) ∧ a10) ∧ a11) ∧ a12)) : (a1 ∧ (a2 ∧ (a3 ∧ (a4 ∧ (a5 ∧ (a6 ∧ (a7 ∧ (a8 ∧ (a9 ∧ (a10 ∧ (a0 ∧ (a11 ∧ a12)))))))))))) := ⟨hk.1.1.1.1.1.1.1.1.1.1.1.2, ⟨hk.1.1.1.1.1.1.1.1.1.1.2, ⟨hk.1.1.1.1.1.1.1.1.1.2, ⟨hk.1.1.1.1.1.1.1.1.2, ⟨hk.1.1.1.1.1.1.1.2, ⟨hk.1.1.1.1.1.1.2, ⟨hk.1.1.1.1.1.2, ⟨hk.1.1.1.1.2, ⟨hk.1.1.1.2, ⟨hk.1.1.2, ⟨hk.1.1.1.1.1.1.1.1.1.1.1.1, ⟨hk.1.2, hk.2⟩⟩⟩⟩⟩⟩⟩⟩⟩⟩⟩⟩
theorem pmBothx8_7 {a0 a1 a2 a3 a4 a5 a6 a7 a8 a9 a10 a11 a12 : Prop} (hk : ((((((((((((a0 ∧ a1) ∧ a2) ∧ a3) ∧ a4) ∧ a5) ∧ a6) ∧ a7) ∧ a8) ∧ a9) ∧ a10) ∧ a11) ∧ a12)) : (a1 ∧ (a2 ∧ (a3 ∧ (a4 ∧ (a5 ∧ (a6 ∧ (a7 ∧ (a8 ∧ (a9 ∧ (a10 ∧ (a11 ∧ (a12 ∧ a0)))))))))))) := ⟨hk.1.1.1.1.1.1.1.1.1.1.1.2, ⟨hk.1.1.1.1.1.1.1.1.1.1.2, ⟨hk.1.1.1.1.1.1.1.1.1.2, ⟨hk.1.1.1.1.1.1.1.1.2, ⟨hk.1.1.1.1.1.1.1.2, ⟨hk.1.1.1.1.1.1.2, ⟨hk.1.1.1.1.1.2, ⟨hk.1.1.1.1.2, ⟨hk.1.1.1.2, ⟨hk.1.1.2, ⟨hk.1.2, ⟨hk.2, hk.1.1.1.1.1.1.1.1.1.1.1.1⟩⟩⟩⟩⟩⟩⟩⟩⟩⟩⟩⟩

/-! ### laws_FnExactBoth: function 9 -/
def laws_FnExactBoth.f (k : Nat) (a0_0 : Int) (a0_1 : Int) (a0_2 : Int) (l0_3 : List Int) (l0_4 : List Int) (a1_0 : Int) (a1_1 : Int) (a1_2 : Int) (l1_3 : List Int) (l1_4 : List Int) : Option (Bool) := (laws_szPattern.f a0_0 a0_1 a0_2 l0_3 l0_4 1048576).bind fun t209 => (if t209 < 0 then (some true) else ((laws_szPattern.f a1_0 a1_1 a1_2 l1_3 l1_4 t209).bind fun t210 => (if t210 < 0 then (some true) else ((laws_toPattern.f k a0_0 a0_1 a0_2 l0_3 l0_4).bind fun bt211 => ((laws_toPattern.f k a1_0 a1_1 a1_2 l1_3 l1_4).bind fun bt220 => ((spec_Both.f k bt211.1 bt211.2.1 bt211.2.2.1 bt211.2.2.2.1 bt211.2.2.2.2 bt220.1 bt220.2.1 bt220.2.2.1 bt220.2.2.2.1 bt220.2.2.2.2).bind fun bt229 => ((laws_toPattern.f k a0_0 a0_1 a0_2 l0_3 l0_4).bind fun bt239 => ((laws_toPattern.f k a1_0 a1_1 a1_2 l1_3 l1_4).bind fun bt249 => ((impl_Both.f k bt239.1 bt239.2.1 bt239.2.2.1 bt239.2.2.2.1 bt239.2.2.2.2 bt249.1 bt249.2.1 bt249.2.2.1 bt249.2.2.2.1 bt249.2.2.2.2).bind fun bt259 => ((laws_eqPattern.f k bt259.1 bt259.2.1 bt259.2.2.1 bt259.2.2.2.1 bt259.2.2.2.2 bt229.1 bt229.2.1 bt229.2.2.1 bt229.2.2.2.1 bt229.2.2.2.2).bind fun t269 => (if t269 = true then ((laws_toPattern.f k a0_0 a0_1 a0_2 l0_3 l0_4).bind fun bt270 => ((laws_eqPattern.f k bt239.1 bt239.2.1 bt239.2.2.1 bt239.2.2.2.1 bt239.2.2.2.2 bt270.1 bt270.2.1 bt270.2.2.1 bt270.2.2.2.1 bt270.2.2.2.2).bind fun t279 => (if t279 = true then ((laws_toPattern.f k a1_0 a1_1 a1_2 l1_3 l1_4).bind fun bt280 => ((laws_eqPattern.f k bt249.1 bt249.2.1 bt249.2.2.1 bt249.2.2.2.1 bt249.2.2.2.2 bt280.1 bt280.2.1 bt280.2.2.1 bt280.2.2.2.1 bt280.2.2.2.2).bind fun t289 => (if t289 = true then ((laws_markPattern.f k bt239.1 bt239.2.1 bt239.2.2.1 bt239.2.2.2.1 bt239.2.2.2.2 1).bind fun bt290 => ((laws_markPattern.f k bt249.1 bt249.2.1 bt249.2.2.1 bt249.2.2.2.1 bt249.2.2.2.2 bt290.1).bind fun bt293 => (if bt293.1 < 0 then (some false) else ((laws_eqPattern.f k bt259.1 bt259.2.1 bt259.2.2.1 bt259.2.2.2.1 bt259.2.2.2.2 bt229.1 bt229.2.1 bt229.2.2.1 bt229.2.2.2.1 bt229.2.2.2.2).bind fun t296 => (if t296 = true then ((laws_markPattern.f k bt259.1 bt259.2.1 bt259.2.2.1 bt259.2.2.2.1 bt259.2.2.2.2 1).bind fun bt297 => ((laws_heldPattern.f k bt259.1 bt259.2.1 bt259.2.2.1 bt297.2.1 bt297.2.2 1).bind fun t300 => (if t300 < 0 then (some false) else (if t300 = bt297.1 then ((laws_toPattern.f k a0_0 a0_1 a0_2 l0_3 l0_4).bind fun bt301 => ((laws_toPattern.f k a1_0 a1_1 a1_2 l1_3 l1_4).bind fun bt310 => ((impl_Both.f k bt301.1 bt301.2.1 bt301.2.2.1 bt301.2.2.2.1 bt301.2.2.2.2 bt310.1 bt310.2.1 bt310.2.2.1 bt310.2.2.2.1 bt310.2.2.2.2).bind fun bt319 => ((laws_eqPattern.f k bt319.1 bt319.2.1 bt319.2.2.1 bt319.2.2.2.1 bt319.2.2.2.2 bt229.1 bt229.2.1 bt229.2.2.1 bt229.2.2.2.1 bt229.2.2.2.2).bind fun t329 => (if t329 = true then ((laws_heldPattern.f k bt259.1 bt259.2.1 bt259.2.2.1 bt297.2.1 bt297.2.2 1).bind fun t330 => (if t330 < 0 then (some false) else (if t330 = bt297.1 then (some true) else (some false)))) else (some false)))))) else (some false))))) else (some false)))))) else (some false)))) else (some false)))) else (some false))))))))))))
theorem laws_FnExactBoth.mono : ∀ a0 a1 a2 a3 a4 a5 a6 a7 a8 a9 k, LeO (laws_FnExactBoth.f k a0 a1 a2 a3 a4 a5 a6 a7 a8 a9) (laws_FnExactBoth.f (k + 1) a0 a1 a2 a3 a4 a5 a6 a7 a8 a9) := by
 intro a0 a1 a2 a3 a4 a5 a6 a7 a8 a9 k
 unfold laws_FnExactBoth.f
 repeat' first
   | (with_reducible exact impl_Both.mono _ _ _ _ _ _ _ _ _ _ _)
   | (with_reducible exact laws_eqPattern.mono _ _ _ _ _ _ _ _ _ _ _)
   | (with_reducible exact laws_heldPattern.mono _ _ _ _ _ _ _)
   | (with_reducible exact laws_markPattern.mono _ _ _ _ _ _ _)
   | (with_reducible exact laws_toPattern.mono _ _ _ _ _ _)
   | (with_reducible exact spec_Both.mono _ _ _ _ _ _ _ _ _ _ _)
   | (with_reducible exact LeO.refl _)
   | (with_reducible exact LeO.none _)
   | (with_reducible refine LeO.ite ?_ ?_)
   | (with_reducible refine LeO.bind ?_ (fun _ => ?_))
   | exact impl_Both.mono _ _ _ _ _ _ _ _ _ _ _
   | exact laws_eqPattern.mono _ _ _ _ _ _ _ _ _ _ _
   | exact laws_heldPattern.mono _ _ _ _ _ _ _
   | exact laws_markPattern.mono _ _ _ _ _ _ _
   | exact laws_toPattern.mono _ _ _ _ _ _
   | exact spec_Both.mono _ _ _ _ _ _ _ _ _ _ _
   | exact LeO.none _
   | refine LeO.ite ?_ ?_
   | refine LeO.bind ?_ (fun _ => ?_)
end Go.Proofs.Ytgjhlkjfdlkndaa.PFnExactBoth
