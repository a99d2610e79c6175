/- What the functions come to, printed by stub.py out of the translation; contracts of this session's own stand for what the print does not take. -/
import Derived.Test.YtecliaogidemjaaProg
import Derived.Below
import Derived.Deep.Draws
import Derived.Deep.AppendLies
import Derived.Maps.AppendAt
import Derived.OwnWalk
import Derived.Laws.BytesArg
import Derived.Laws.MakeOwn
import Derived.Laws.OwnMore
import Derived.Deep.OwnRows
import Derived.Tactics
import Derived.Lib.ConvBytes
import Derived.Laws.Slices
import Derived.WalkKit
import Derived.KernelRfl
import Derived.RowKit3
import Derived.Deep.LoopGhost
import Derived.Deep.QuietTactic
import Derived.BigQuiet
import Derived.WideLaws
import Derived.Deep.DeepCutAuto
import Derived.Deep.CutBlock
import Derived.Deep.RegionHeld3
import Derived.Laws.Rows
import Derived.Lib.AppendStr
import Derived.ArgAppend
import Derived.Laws.IdiomCopy
import Derived.OrdersHeld
import Derived.Laws.BitsLemmas
import Derived.RowKit
import Derived.Test.YtecliaogidemjaaWWords
import Derived.Test.YtecliaogidemjaaWLast
import Derived.Test.YtecliaogidemjaaWTab
import Derived.Test.YtecliaogidemjaaWFour
import Derived.Test.YtecliaogidemjaaWQPut
import Derived.Test.YtecliaogidemjaaWApart
import Derived.Test.YtecliaogidemjaaWArr
import Derived.Test.YtecliaogidemjaaWZeros
import Derived.Test.YtecliaogidemjaaWFoot
import Derived.Test.YtecliaogidemjaaWKept
import Derived.Test.YtecliaogidemjaaWShare
import Derived.Test.YtecliaogidemjaaWN
import Derived.Test.YtecliaogidemjaaWFootNe
import Derived.Test.YtecliaogidemjaaWAt
import Derived.Test.YtecliaogidemjaaWEqStruct
import Derived.Test.YtecliaogidemjaaWRepsOne
import Derived.Test.YtecliaogidemjaaWInv
import Derived.Test.YtecliaogidemjaaWInvWords
import Derived.Test.YtecliaogidemjaaWGuard
import Derived.Test.YtecliaogidemjaaWNEv
import Derived.Test.YtecliaogidemjaaWMore
import Derived.Test.YtecliaogidemjaaPBootAllx1
import Derived.Test.YtecliaogidemjaaPickP
import Derived.Test.YtecliaogidemjaaBootL
import Derived.Test.YtecliaogidemjaaB8
namespace Go.Proofs.Ytecliaogidemjaa.PRollQ
open Go.RowKit Go.Proofs.YtecliaogidemjaaW.PrintWords Go.Proofs.YtecliaogidemjaaW.PrintLast Go.Proofs.YtecliaogidemjaaW.PrintMore Go.Proofs.Ytecliaogidemjaa.PBootAll Go.Proofs.Ytecliaogidemjaa.Boot Go.Proofs.Ytecliaogidemjaa.Pick
attribute [local go_sem] max2_int min2_int max_two min_two max_three min_three max_four min_four   -- for this text's walks alone
set_option linter.unusedVariables false
set_option linter.unusedSimpArgs false



def errW : Option Int → Value
  | none => .nilIface
  | some c => .iface 0 (.int .i64 c)
theorem errW_none : errW none = .nilIface := rfl
theorem errW_some (c : Int) : errW (some c) = .iface 0 (.int .i64 c) := rfl

theorem info4 : (Try.prog.info? 4).map (fun i => (i.zero, i.size, i.bytes)) = some (some (.bool false), 1, 1) := by kernel_rfl
theorem info5 : (Try.prog.info? 5).map (fun i => (i.zero, i.size, i.bytes)) = some (some (.int .u8 0), 1, 1) := by kernel_rfl
theorem info54 : (Try.prog.info? 54).map (fun i => (i.zero, i.size, i.bytes)) = some (some (.int .u32 0), 1, 4) := by kernel_rfl
theorem info56 : (Try.prog.info? 56).map (fun i => (i.zero, i.size, i.bytes)) = some (some (.agg #[(.bool false), (.bool false), (.bool false), (.bool false), (.bool false), (.int .u32 0), (.int .i64 0), (.int .i64 0), (.int .i64 0)]), 9, 40) := by kernel_rfl
theorem info77 : (Try.prog.info? 77).map (fun i => (i.zero, i.size, i.bytes)) = some (some (.agg #[(.bool false), (.int .u8 0)]), 2, 2) := by kernel_rfl
-- the values' own types
/-! #### struct type 77 -/
structure S77 where
  f0 : Bool
  f1 : Int
def z77 : S77 := ⟨false, (0 : Int)⟩
def k77 : Kd S77 := Kd.iso (Kd.pair Kd.bool (Kd.int .u8)) (fun x : S77 => (x.f0, x.f1))
theorem k77_open {w : World} {x : S77} {cs : List Value} (h : k77.K w x cs) : cs = [.bool x.f0, .int .u8 x.f1] := by
  obtain ⟨_, _, rfl, rfl, rfl⟩ := h
  exact rfl
theorem k77_openM {w : World} {base : Nat} {ok : Nat → Prop} {x : S77} {cs : List Value} (h : k77.M w base ok x cs) : cs = [.bool x.f0, .int .u8 x.f1] := by
  obtain ⟨_, _, rfl, rfl, rfl⟩ := h
  exact rfl
theorem k77_mk (w : World) (x : S77)  : k77.K w x [.bool x.f0, .int .u8 x.f1] := ⟨[.bool x.f0], [.int .u8 x.f1], rfl, rfl, rfl⟩
theorem k77_mkM (w : World) (base : Nat) (ok : Nat → Prop) (x : S77)  : k77.M w base ok x [.bool x.f0, .int .u8 x.f1] := ⟨[.bool x.f0], [.int .u8 x.f1], rfl, rfl, rfl⟩
def rd_T77 (xs : List S77) (i : Int) : S77 := xs.getD i.toNat z77
theorem at_T77 {w : World} {A : Option Addr} {n : Nat} {xs : List S77} (h : Kd.C k77 w A n xs) (i : Int) (h0 : 0 ≤ i) (h1 : i < n) : ∃ ad , A = some ad ∧ w.cell? (ad.add (i.toNat * 2)) = some (.bool (rd_T77 xs i).f0) ∧ w.cell? ⟨(ad.add (i.toNat * 2)).block, (ad.add (i.toNat * 2)).off + 1, none⟩ = some (.int .u8 (rd_T77 xs i).f1) := by
  obtain ⟨ad, c, e, _, hK, hc0⟩ := Kd.C_get h z77 i h0 h1
  have hc : ∀ j u, c[j]? = some u → w.cell? (ad.add (i.toNat * 2 + j)) = some u := hc0
  obtain rfl := k77_open hK
  exact ⟨ad, e, hc 0 _ rfl, by rw [← add_field _ _ 1 (by omega)]; exact hc 1 _ rfl⟩

end Go.Proofs.Ytecliaogidemjaa.PRollQ
