-- Written by a program of this session (wip/tools/fltprint.py: the kit's printer, taught more).
import Derived.Test.YtmbonjljbienkaaProg
import Derived.Below
import Derived.Deep.Draws
import Derived.Deep.AppendLies
import Derived.Maps.AppendAt
import Derived.OwnWalk
import Derived.Laws.BytesArg
import Derived.Laws.MakeOwn
import Derived.Laws.OwnMore
import Derived.Deep.OwnRows
import Derived.Tactics
import Derived.Lib.ConvBytes
import Derived.Laws.Slices
import Derived.WalkKit
import Derived.KernelRfl
import Derived.RowKit3
import Derived.Deep.LoopGhost
import Derived.Deep.QuietTactic
import Derived.BigQuiet
import Derived.WideLaws
import Derived.Deep.DeepCutAuto
import Derived.Deep.CutBlock
import Derived.Deep.RegionHeld3
import Derived.Laws.Rows
import Derived.Lib.AppendStr
import Derived.ArgAppend
import Derived.Laws.IdiomCopy
import Derived.OrdersHeld
import Derived.Laws.BitsLemmas
import Derived.RowKit
import Derived.Test.YtmbonjljbienkaaVFnRideWords
import Derived.Test.YtmbonjljbienkaaVFnRideLast
import Derived.Test.YtmbonjljbienkaaVFnRideTab
import Derived.Test.YtmbonjljbienkaaVFnRideFour
import Derived.Test.YtmbonjljbienkaaVFnRideQPut
import Derived.Test.YtmbonjljbienkaaVFnRideApart
import Derived.Test.YtmbonjljbienkaaVFnRideArr
import Derived.Test.YtmbonjljbienkaaVFnRideZeros
import Derived.Test.YtmbonjljbienkaaVFnRideFoot
import Derived.Test.YtmbonjljbienkaaVFnRideKept
import Derived.Test.YtmbonjljbienkaaVFnRideShare
import Derived.Test.YtmbonjljbienkaaVFnRideN
import Derived.Test.YtmbonjljbienkaaVFnRideFootNe
import Derived.Test.YtmbonjljbienkaaVFnRideAt
import Derived.Test.YtmbonjljbienkaaVFnRideEqStruct
import Derived.Test.YtmbonjljbienkaaVFnRideRepsOne
import Derived.Test.YtmbonjljbienkaaVFnRideInv
import Derived.Test.YtmbonjljbienkaaVFnRideInvWords
import Derived.Test.YtmbonjljbienkaaVFnRideGuard
import Derived.Test.YtmbonjljbienkaaVFnRideNEv
import Derived.Test.YtmbonjljbienkaaVFnRideMore
import Derived.Test.YtmbonjljbienkaaVFnRideFlt
namespace Go.Proofs.Ytmbonjljbienkaa.PFnRide
open Go.RowKit Go.Proofs.YtmbonjljbienkaaW.PrintWords Go.Proofs.YtmbonjljbienkaaW.PrintLast Go.Proofs.YtmbonjljbienkaaW.PrintMore
attribute [local go_sem] run_fl binOp_feq binOp_fne binOp_flt binOp_fle binOp_fgt binOp_fge run_store_f64 run_conv_f64
attribute [local go_sem] max2_int min2_int max_two min_two max_three min_three max_four min_four   -- for this text's walks alone
set_option linter.unusedVariables false
set_option linter.unusedSimpArgs false



def errW : Option Int → Value
  | none => .nilIface
  | some c => .iface 0 (.int .i64 c)
theorem errW_none : errW none = .nilIface := rfl
theorem errW_some (c : Int) : errW (some c) = .iface 0 (.int .i64 c) := rfl

theorem info33 : (Try.prog.info? 33).map (fun i => (i.zero, i.size, i.bytes)) = some (some (.float .f64 0), 1, 8) := by kernel_rfl
theorem info61 : (Try.prog.info? 61).map (fun i => (i.zero, i.size, i.bytes)) = some (some (.agg #[(.float .f64 0), (.float .f64 0), (.float .f64 0), (.float .f64 0)]), 4, 32) := by kernel_rfl
-- the values' own types
/-! #### struct type 61 -/
structure S61 where
  f0 : Nat
  f1 : Nat
  f2 : Nat
  f3 : Nat
def z61 : S61 := ⟨(0 : Nat), (0 : Nat), (0 : Nat), (0 : Nat)⟩
def k61 : Kd S61 := Kd.iso (Kd.pair Kd.f64 (Kd.pair Kd.f64 (Kd.pair Kd.f64 Kd.f64))) (fun x : S61 => (x.f0, x.f1, x.f2, x.f3))
theorem k61_open {w : World} {x : S61} {cs : List Value} (h : k61.K w x cs) : cs = [.float .f64 x.f0, .float .f64 x.f1, .float .f64 x.f2, .float .f64 x.f3] := by
  obtain ⟨_, _, rfl, rfl, ⟨_, _, rfl, rfl, ⟨_, _, rfl, rfl, rfl⟩⟩⟩ := h
  exact rfl
theorem k61_openM {w : World} {base : Nat} {ok : Nat → Prop} {x : S61} {cs : List Value} (h : k61.M w base ok x cs) : cs = [.float .f64 x.f0, .float .f64 x.f1, .float .f64 x.f2, .float .f64 x.f3] := by
  obtain ⟨_, _, rfl, rfl, ⟨_, _, rfl, rfl, ⟨_, _, rfl, rfl, rfl⟩⟩⟩ := h
  exact rfl
theorem k61_mk (w : World) (x : S61)  : k61.K w x [.float .f64 x.f0, .float .f64 x.f1, .float .f64 x.f2, .float .f64 x.f3] := ⟨[.float .f64 x.f0], [.float .f64 x.f1, .float .f64 x.f2, .float .f64 x.f3], rfl, rfl, ⟨[.float .f64 x.f1], [.float .f64 x.f2, .float .f64 x.f3], rfl, rfl, ⟨[.float .f64 x.f2], [.float .f64 x.f3], rfl, rfl, rfl⟩⟩⟩
theorem k61_mkM (w : World) (base : Nat) (ok : Nat → Prop) (x : S61)  : k61.M w base ok x [.float .f64 x.f0, .float .f64 x.f1, .float .f64 x.f2, .float .f64 x.f3] := ⟨[.float .f64 x.f0], [.float .f64 x.f1, .float .f64 x.f2, .float .f64 x.f3], rfl, rfl, ⟨[.float .f64 x.f1], [.float .f64 x.f2, .float .f64 x.f3], rfl, rfl, ⟨[.float .f64 x.f2], [.float .f64 x.f3], rfl, rfl, rfl⟩⟩⟩
def rd_T61 (xs : List S61) (i : Int) : S61 := xs.getD i.toNat z61
theorem at_T61 {w : World} {A : Option Addr} {n : Nat} {xs : List S61} (h : Kd.C k61 w A n xs) (i : Int) (h0 : 0 ≤ i) (h1 : i < n) : ∃ ad , A = some ad ∧ w.cell? (ad.add (i.toNat * 4)) = some (.float .f64 (rd_T61 xs i).f0) ∧ w.cell? ⟨(ad.add (i.toNat * 4)).block, (ad.add (i.toNat * 4)).off + 1, none⟩ = some (.float .f64 (rd_T61 xs i).f1) ∧ w.cell? ⟨(ad.add (i.toNat * 4)).block, (ad.add (i.toNat * 4)).off + 2, none⟩ = some (.float .f64 (rd_T61 xs i).f2) ∧ w.cell? ⟨(ad.add (i.toNat * 4)).block, (ad.add (i.toNat * 4)).off + 3, none⟩ = some (.float .f64 (rd_T61 xs i).f3) := by
  obtain ⟨ad, c, e, _, hK, hc0⟩ := Kd.C_get h z61 i h0 h1
  have hc : ∀ j u, c[j]? = some u → w.cell? (ad.add (i.toNat * 4 + j)) = some u := hc0
  obtain rfl := k61_open hK
  exact ⟨ad, e, hc 0 _ rfl, by rw [← add_field _ _ 1 (by omega)]; exact hc 1 _ rfl, by rw [← add_field _ _ 2 (by omega)]; exact hc 2 _ rfl, by rw [← add_field _ _ 3 (by omega)]; exact hc 3 _ rfl⟩

end Go.Proofs.Ytmbonjljbienkaa.PFnRide
