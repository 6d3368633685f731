-- PRINTED by print.py (a twelfth state) out of the translation. Not trusted: Lean checks it.
import Derived.Test.YtpkfpgjacijjeaaDoorProg
import Derived.Below
import Derived.Deep.Draws
import Derived.Deep.AppendLies
import Derived.Maps.AppendAt
import Derived.OwnWalk
import Derived.Laws.BytesArg
import Derived.Laws.MakeOwn
import Derived.Laws.OwnMore
import Derived.Deep.OwnRows
import Derived.Tactics
import Derived.Lib.ConvBytes
import Derived.Laws.Slices
import Derived.WalkKit
import Derived.KernelRfl
import Derived.RowKit3
import Derived.Deep.LoopGhost
import Derived.Deep.QuietTactic
import Derived.BigQuiet
import Derived.WideLaws
import Derived.Deep.DeepCutAuto
import Derived.Deep.CutBlock
import Derived.Deep.RegionHeld3
import Derived.Laws.Rows
import Derived.Lib.AppendStr
import Derived.ArgAppend
import Derived.Laws.IdiomCopy
import Derived.OrdersHeld
import Derived.Laws.BitsLemmas
import Derived.RowKit
import Derived.LaidEql
import Derived.RowKitTokens
import Derived.Stop.Asserts
import Derived.Test.YtpkfpgjacijjeaaDoorXrShelf
import Derived.Test.YtpkfpgjacijjeaaDoorWWords
import Derived.Test.YtpkfpgjacijjeaaDoorWLast
import Derived.Test.YtpkfpgjacijjeaaDoorWTab
import Derived.Test.YtpkfpgjacijjeaaDoorWFour
import Derived.Test.YtpkfpgjacijjeaaDoorWQPut
import Derived.Test.YtpkfpgjacijjeaaDoorWApart
import Derived.Test.YtpkfpgjacijjeaaDoorWArr
import Derived.Test.YtpkfpgjacijjeaaDoorWZeros
import Derived.Test.YtpkfpgjacijjeaaDoorWFoot
import Derived.Test.YtpkfpgjacijjeaaDoorWKept
import Derived.Test.YtpkfpgjacijjeaaDoorWShare
import Derived.Test.YtpkfpgjacijjeaaDoorWN
import Derived.Test.YtpkfpgjacijjeaaDoorWFootNe
import Derived.Test.YtpkfpgjacijjeaaDoorWAt
import Derived.Test.YtpkfpgjacijjeaaDoorWEqStruct
import Derived.Test.YtpkfpgjacijjeaaDoorWRepsOne
import Derived.Test.YtpkfpgjacijjeaaDoorWInv
import Derived.Test.YtpkfpgjacijjeaaDoorWInvWords
import Derived.Test.YtpkfpgjacijjeaaDoorWGuard
import Derived.Test.YtpkfpgjacijjeaaDoorWNEv
import Derived.Test.YtpkfpgjacijjeaaDoorWMore
namespace Go.Proofs.YtpkfpgjacijjeaaDoor.Xr
open Go.RowKit Go.Proofs.YtpkfpgjacijjeaaDoorW.PrintWords Go.Proofs.YtpkfpgjacijjeaaDoorW.PrintLast Go.Proofs.YtpkfpgjacijjeaaDoorW.PrintMore
attribute [local go_sem] max2_int min2_int max_two min_two max_three min_three max_four min_four   -- for this text's walks alone
set_option linter.unusedVariables false
set_option linter.unusedSimpArgs false



def errW : Option Int → Value
  | none => .nilIface
  | some c => .iface 47 (.int .i64 c)
theorem errW_none : errW none = .nilIface := rfl
theorem errW_some (c : Int) : errW (some c) = .iface 47 (.int .i64 c) := rfl

def u64ok (a : Int) : Bool := decide (0 ≤ a ∧ a < 18446744073709551616)
/-- errors.errorType as its initialiser lays it. -/
def Laid_ETYPE (w : World) : Prop := w.cell? ⟨0, 0, none⟩ = some (.iface 95 (.agg #[.pointer (some ⟨4, 25, none⟩)]))
theorem Laid_ETYPE.of_below {w W : World} (h : Laid_ETYPE w) (hb : Below w.heap.size w W) : Laid_ETYPE W := pw_cell_below hb h

theorem info5 : (Tryd.prog.info? 5).map (fun i => (i.zero, i.size, i.bytes)) = some (some (.int .u8 0), 1, 1) := by kernel_rfl
-- the values' own types

end Go.Proofs.YtpkfpgjacijjeaaDoor.Xr
