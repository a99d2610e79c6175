/- What the functions come to, printed by stub.py out of the translation; contracts of this session's own stand for what the print does not take. -/
import Derived.Test.YtmhglfidggjfdaaProg
import Derived.Below
import Derived.Deep.Draws
import Derived.Deep.AppendLies
import Derived.Maps.AppendAt
import Derived.OwnWalk
import Derived.Laws.BytesArg
import Derived.Laws.MakeOwn
import Derived.Laws.OwnMore
import Derived.Deep.OwnRows
import Derived.Tactics
import Derived.Lib.ConvBytes
import Derived.Laws.Slices
import Derived.WalkKit
import Derived.KernelRfl
import Derived.RowKit3
import Derived.Deep.LoopGhost
import Derived.Deep.QuietTactic
import Derived.BigQuiet
import Derived.WideLaws
import Derived.Deep.DeepCutAuto
import Derived.Deep.CutBlock
import Derived.Deep.RegionHeld3
import Derived.Laws.Rows
import Derived.Lib.AppendStr
import Derived.ArgAppend
import Derived.Laws.IdiomCopy
import Derived.OrdersHeld
import Derived.Laws.BitsLemmas
import Derived.RowKit
import Derived.Test.YtmhglfidggjfdaaWWords
import Derived.Test.YtmhglfidggjfdaaWLast
import Derived.Test.YtmhglfidggjfdaaWTab
import Derived.Test.YtmhglfidggjfdaaWFour
import Derived.Test.YtmhglfidggjfdaaWQPut
import Derived.Test.YtmhglfidggjfdaaWApart
import Derived.Test.YtmhglfidggjfdaaWArr
import Derived.Test.YtmhglfidggjfdaaWZeros
import Derived.Test.YtmhglfidggjfdaaWFoot
import Derived.Test.YtmhglfidggjfdaaWKept
import Derived.Test.YtmhglfidggjfdaaWShare
import Derived.Test.YtmhglfidggjfdaaWN
import Derived.Test.YtmhglfidggjfdaaWFootNe
import Derived.Test.YtmhglfidggjfdaaWAt
import Derived.Test.YtmhglfidggjfdaaWEqStruct
import Derived.Test.YtmhglfidggjfdaaWRepsOne
import Derived.Test.YtmhglfidggjfdaaWInv
import Derived.Test.YtmhglfidggjfdaaWInvWords
import Derived.Test.YtmhglfidggjfdaaWGuard
import Derived.Test.YtmhglfidggjfdaaWNEv
import Derived.Test.YtmhglfidggjfdaaWMore
import Derived.Test.YtmhglfidggjfdaaPBillBackx2
namespace Go.Proofs.Ytmhglfidggjfdaa.PBillR
open Go.RowKit Go.Proofs.YtmhglfidggjfdaaW.PrintWords Go.Proofs.YtmhglfidggjfdaaW.PrintLast Go.Proofs.YtmhglfidggjfdaaW.PrintMore Go.Proofs.Ytmhglfidggjfdaa.PBillBack
attribute [local go_sem] max2_int min2_int max_two min_two max_three min_three max_four min_four   -- for this text's walks alone
set_option linter.unusedVariables false
set_option linter.unusedSimpArgs false



def errW : Option Int → Value
  | none => .nilIface
  | some c => .iface 0 (.int .i64 c)
theorem errW_none : errW none = .nilIface := rfl
theorem errW_some (c : Int) : errW (some c) = .iface 0 (.int .i64 c) := rfl

theorem info4 : (Try.prog.info? 4).map (fun i => (i.zero, i.size, i.bytes)) = some (some (.bool false), 1, 1) := by kernel_rfl
theorem info5 : (Try.prog.info? 5).map (fun i => (i.zero, i.size, i.bytes)) = some (some (.int .u8 0), 1, 1) := by kernel_rfl
theorem info60 : (Try.prog.info? 60).map (fun i => (i.zero, i.size, i.bytes)) = some (some (.agg #[(.bool false), (.bool false), (.bool false), (.bool false), (.bool false), (.int .u32 0), (.int .i64 0), (.int .i64 0), (.int .i64 0)]), 9, 40) := by kernel_rfl
-- the values' own types
end Go.Proofs.Ytmhglfidggjfdaa.PBillR
