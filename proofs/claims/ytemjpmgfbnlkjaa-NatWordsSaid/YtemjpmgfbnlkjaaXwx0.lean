-- PRINTED by print.py (a twelfth state) out of the translation. Not trusted: Lean checks it.
import Derived.Test.YtemjpmgfbnlkjaaProg
import Derived.Below
import Derived.Deep.Draws
import Derived.Deep.AppendLies
import Derived.Maps.AppendAt
import Derived.OwnWalk
import Derived.Laws.BytesArg
import Derived.Laws.MakeOwn
import Derived.Laws.OwnMore
import Derived.Deep.OwnRows
import Derived.Tactics
import Derived.Lib.ConvBytes
import Derived.Laws.Slices
import Derived.WalkKit
import Derived.KernelRfl
import Derived.RowKit3
import Derived.Deep.LoopGhost
import Derived.Deep.QuietTactic
import Derived.BigQuiet
import Derived.WideLaws
import Derived.Deep.DeepCutAuto
import Derived.Deep.CutBlock
import Derived.Deep.RegionHeld3
import Derived.Laws.Rows
import Derived.Lib.AppendStr
import Derived.ArgAppend
import Derived.Laws.IdiomCopy
import Derived.OrdersHeld
import Derived.Laws.BitsLemmas
import Derived.RowKit
import Derived.Laws.Externs
import Derived.Shelf.Spec.BitsCarry
import Derived.Test.YtemjpmgfbnlkjaaXwShelf
import Derived.Test.YtemjpmgfbnlkjaaWWords
import Derived.Test.YtemjpmgfbnlkjaaWLast
import Derived.Test.YtemjpmgfbnlkjaaWTab
import Derived.Test.YtemjpmgfbnlkjaaWFour
import Derived.Test.YtemjpmgfbnlkjaaWQPut
import Derived.Test.YtemjpmgfbnlkjaaWApart
import Derived.Test.YtemjpmgfbnlkjaaWArr
import Derived.Test.YtemjpmgfbnlkjaaWZeros
import Derived.Test.YtemjpmgfbnlkjaaWFoot
import Derived.Test.YtemjpmgfbnlkjaaWKept
import Derived.Test.YtemjpmgfbnlkjaaWShare
import Derived.Test.YtemjpmgfbnlkjaaWN
import Derived.Test.YtemjpmgfbnlkjaaWFootNe
import Derived.Test.YtemjpmgfbnlkjaaWAt
import Derived.Test.YtemjpmgfbnlkjaaWEqStruct
import Derived.Test.YtemjpmgfbnlkjaaWRepsOne
import Derived.Test.YtemjpmgfbnlkjaaWInv
import Derived.Test.YtemjpmgfbnlkjaaWInvWords
import Derived.Test.YtemjpmgfbnlkjaaWGuard
import Derived.Test.YtemjpmgfbnlkjaaWNEv
import Derived.Test.YtemjpmgfbnlkjaaWMore
namespace Go.Proofs.Ytemjpmgfbnlkjaa.Xw
open Go.RowKit Go.Proofs.YtemjpmgfbnlkjaaW.PrintWords Go.Proofs.YtemjpmgfbnlkjaaW.PrintLast Go.Proofs.YtemjpmgfbnlkjaaW.PrintMore
attribute [local go_sem] max2_int min2_int max_two min_two max_three min_three max_four min_four   -- for this text's walks alone
set_option linter.unusedVariables false
set_option linter.unusedSimpArgs false



def errW : Option Int → Value
  | none => .nilIface
  | some c => .iface 73 (.int .i64 c)
theorem errW_none : errW none = .nilIface := rfl
theorem errW_some (c : Int) : errW (some c) = .iface 73 (.int .i64 c) := rfl

def u64ok (a : Int) : Bool := decide (0 ≤ a ∧ a < 18446744073709551616)

theorem info5 : (Try.prog.info? 5).map (fun i => (i.zero, i.size, i.bytes)) = some (some (.int .u8 0), 1, 1) := by kernel_rfl
theorem info38 : (Try.prog.info? 38).map (fun i => (i.zero, i.size, i.bytes)) = some (some (.int .u64 0), 1, 8) := by kernel_rfl
theorem info87 : (Try.prog.info? 87).map (fun i => (i.zero, i.size, i.bytes)) = some (some (.int .u32 0), 1, 4) := by kernel_rfl
-- the values' own types

end Go.Proofs.Ytemjpmgfbnlkjaa.Xw
