-- PRINTED by print.py (a twelfth state) out of the translation. Not trusted: Lean checks it.
import Derived.Test.YtbnmchaldolpfaaDoorProg
import Derived.Below
import Derived.Deep.Draws
import Derived.Deep.AppendLies
import Derived.Maps.AppendAt
import Derived.OwnWalk
import Derived.Laws.BytesArg
import Derived.Laws.MakeOwn
import Derived.Laws.OwnMore
import Derived.Deep.OwnRows
import Derived.Tactics
import Derived.Lib.ConvBytes
import Derived.Laws.Slices
import Derived.WalkKit
import Derived.KernelRfl
import Derived.RowKit3
import Derived.Deep.LoopGhost
import Derived.Deep.QuietTactic
import Derived.BigQuiet
import Derived.WideLaws
import Derived.Deep.DeepCutAuto
import Derived.Deep.CutBlock
import Derived.Deep.RegionHeld3
import Derived.Laws.Rows
import Derived.Lib.AppendStr
import Derived.ArgAppend
import Derived.Laws.IdiomCopy
import Derived.OrdersHeld
import Derived.Laws.BitsLemmas
import Derived.RowKit
import Derived.LaidEql
import Derived.Laws.Bits64b
import Derived.Lib.TrailingZeros
import Derived.RowKitTokens
import Derived.Stop.Asserts
import Derived.Test.YtbnmchaldolpfaaDoorXoShelf
import Derived.Test.YtbnmchaldolpfaaDoorWWords
import Derived.Test.YtbnmchaldolpfaaDoorWLast
import Derived.Test.YtbnmchaldolpfaaDoorWTab
import Derived.Test.YtbnmchaldolpfaaDoorWFour
import Derived.Test.YtbnmchaldolpfaaDoorWQPut
import Derived.Test.YtbnmchaldolpfaaDoorWApart
import Derived.Test.YtbnmchaldolpfaaDoorWArr
import Derived.Test.YtbnmchaldolpfaaDoorWZeros
import Derived.Test.YtbnmchaldolpfaaDoorWFoot
import Derived.Test.YtbnmchaldolpfaaDoorWKept
import Derived.Test.YtbnmchaldolpfaaDoorWShare
import Derived.Test.YtbnmchaldolpfaaDoorWN
import Derived.Test.YtbnmchaldolpfaaDoorWFootNe
import Derived.Test.YtbnmchaldolpfaaDoorWAt
import Derived.Test.YtbnmchaldolpfaaDoorWEqStruct
import Derived.Test.YtbnmchaldolpfaaDoorWRepsOne
import Derived.Test.YtbnmchaldolpfaaDoorWInv
import Derived.Test.YtbnmchaldolpfaaDoorWInvWords
import Derived.Test.YtbnmchaldolpfaaDoorWGuard
import Derived.Test.YtbnmchaldolpfaaDoorWNEv
import Derived.Test.YtbnmchaldolpfaaDoorWMore
namespace Go.Proofs.YtbnmchaldolpfaaDoor.Xo
open Go.RowKit Go.Proofs.YtbnmchaldolpfaaDoorW.PrintWords Go.Proofs.YtbnmchaldolpfaaDoorW.PrintLast Go.Proofs.YtbnmchaldolpfaaDoorW.PrintMore
attribute [local go_sem] max2_int min2_int max_two min_two max_three min_three max_four min_four   -- for this text's walks alone
set_option linter.unusedVariables false
set_option linter.unusedSimpArgs false



def errW : Option Int → Value
 | none => .nilIface
 | some c => .iface 43 (.int .i64 c)
theorem errW_none : errW none = .nilIface := rfl
theorem errW_some (c : Int) : errW (some c) = .iface 43 (.int .i64 c) := rfl

def u64ok (a : Int) : Bool := decide (0 ≤ a ∧ a < 18446744073709551616)
/-- errors.errorType as its initialiser lays it. -/
def Laid_ETYPE (w : World) : Prop := w.cell? ⟨0, 0, none⟩ = some (.iface 79 (.agg #[.pointer (some ⟨2, 27, none⟩)]))
theorem Laid_ETYPE.of_below {w W : World} (h : Laid_ETYPE w) (hb : Below w.heap.size w W) : Laid_ETYPE W := pw_cell_below hb h
/-- The table as its initialiser lays it. -/
def tab_DB64 : List Nat := [0, 1, 56, 2, 57, 49, 28, 3, 61, 58, 42, 50, 38, 29, 17, 4, 62, 47, 59, 36, 45, 43, 51, 22, 53, 39, 33, 30, 24, 18, 12, 5, 63, 55, 48, 27, 60, 41, 37, 16, 46, 35, 44, 21, 52, 32, 23, 11, 54, 26, 40, 15, 34, 20, 31, 10, 25, 14, 19, 9, 13, 8, 7, 6]
def Laid_DB64 (w : World) : Prop := ∀ j, j < 64 → w.cell? ⟨1, j, none⟩ = some (.int .u8 (tab_DB64.getD j 0))
theorem Laid_DB64.of_below {w W : World} (h : Laid_DB64 w) (hb : Below w.heap.size w W) : Laid_DB64 W := fun j hj => pw_cell_below hb (h j hj)

theorem info22 : (Tryd.prog.info? 22).map (fun i => (i.zero, i.size, i.bytes)) = some (some (.int .u64 0), 1, 8) := by kernel_rfl
-- the values' own types

end Go.Proofs.YtbnmchaldolpfaaDoor.Xo
