-- PRINTED by print.py (a twelfth state) out of the translation. Not trusted: Lean checks it.
import Derived.Test.YtmncgmgcngokoaaDoorProg
import Derived.Below
import Derived.Deep.Draws
import Derived.Deep.AppendLies
import Derived.Maps.AppendAt
import Derived.OwnWalk
import Derived.Laws.BytesArg
import Derived.Laws.MakeOwn
import Derived.Laws.OwnMore
import Derived.Deep.OwnRows
import Derived.Tactics
import Derived.Lib.ConvBytes
import Derived.Laws.Slices
import Derived.WalkKit
import Derived.KernelRfl
import Derived.RowKit3
import Derived.Deep.LoopGhost
import Derived.Deep.QuietTactic
import Derived.BigQuiet
import Derived.WideLaws
import Derived.Deep.DeepCutAuto
import Derived.Deep.CutBlock
import Derived.Deep.RegionHeld3
import Derived.Laws.Rows
import Derived.Lib.AppendStr
import Derived.ArgAppend
import Derived.Laws.IdiomCopy
import Derived.OrdersHeld
import Derived.Laws.BitsLemmas
import Derived.RowKit
import Derived.Laws.Bits64b
import Derived.Lib.ItoaNum
import Derived.Lib.LaidTab
import Derived.Lib.TrailingZeros
import Derived.Sort.Grow
import Derived.Test.YtmncgmgcngokoaaDoorXbShelf
import Derived.Test.YtmncgmgcngokoaaDoorWWords
import Derived.Test.YtmncgmgcngokoaaDoorWLast
import Derived.Test.YtmncgmgcngokoaaDoorWTab
import Derived.Test.YtmncgmgcngokoaaDoorWFour
import Derived.Test.YtmncgmgcngokoaaDoorWQPut
import Derived.Test.YtmncgmgcngokoaaDoorWApart
import Derived.Test.YtmncgmgcngokoaaDoorWArr
import Derived.Test.YtmncgmgcngokoaaDoorWZeros
import Derived.Test.YtmncgmgcngokoaaDoorWFoot
import Derived.Test.YtmncgmgcngokoaaDoorWKept
import Derived.Test.YtmncgmgcngokoaaDoorWShare
import Derived.Test.YtmncgmgcngokoaaDoorWN
import Derived.Test.YtmncgmgcngokoaaDoorWFootNe
import Derived.Test.YtmncgmgcngokoaaDoorWAt
import Derived.Test.YtmncgmgcngokoaaDoorWEqStruct
import Derived.Test.YtmncgmgcngokoaaDoorWRepsOne
import Derived.Test.YtmncgmgcngokoaaDoorWInv
import Derived.Test.YtmncgmgcngokoaaDoorWInvWords
import Derived.Test.YtmncgmgcngokoaaDoorWGuard
import Derived.Test.YtmncgmgcngokoaaDoorWNEv
import Derived.Test.YtmncgmgcngokoaaDoorWMore
namespace Go.Proofs.YtmncgmgcngokoaaDoor.Xb
open Go.RowKit Go.Proofs.YtmncgmgcngokoaaDoorW.PrintWords Go.Proofs.YtmncgmgcngokoaaDoorW.PrintLast Go.Proofs.YtmncgmgcngokoaaDoorW.PrintMore
attribute [local go_sem] max2_int min2_int max_two min_two max_three min_three max_four min_four   -- for this text's walks alone
set_option linter.unusedVariables false
set_option linter.unusedSimpArgs false



def errW : Option Int → Value
  | none => .nilIface
  | some c => .iface 48 (.int .i64 c)
theorem errW_none : errW none = .nilIface := rfl
theorem errW_some (c : Int) : errW (some c) = .iface 48 (.int .i64 c) := rfl

def u64ok (a : Int) : Bool := decide (0 ≤ a ∧ a < 18446744073709551616)
/-- The table as its initialiser lays it. -/
def tab_DB64 : List Nat := [0, 1, 56, 2, 57, 49, 28, 3, 61, 58, 42, 50, 38, 29, 17, 4, 62, 47, 59, 36, 45, 43, 51, 22, 53, 39, 33, 30, 24, 18, 12, 5, 63, 55, 48, 27, 60, 41, 37, 16, 46, 35, 44, 21, 52, 32, 23, 11, 54, 26, 40, 15, 34, 20, 31, 10, 25, 14, 19, 9, 13, 8, 7, 6]
def Laid_DB64 (w : World) : Prop := ∀ j, j < 64 → w.cell? ⟨3, j, none⟩ = some (.int .u8 (tab_DB64.getD j 0))
theorem Laid_DB64.of_below {w W : World} (h : Laid_DB64 w) (hb : Below w.heap.size w W) : Laid_DB64 W := fun j hj => pw_cell_below hb (h j hj)
/-- The table of powers of ten as its initialiser lays it. -/
def Laid_P10 (w : World) : Prop := Lib.TabIs Tryd.prog w "internal/strconv.uint64pow10" .u64 Lib.pow10Tab
theorem Laid_P10.of_below {w W : World} (h : Laid_P10 w) (hb : Below w.heap.size w W) : Laid_P10 W := by
  have hg : Tryd.prog.globalNamed "internal/strconv.uint64pow10" = some 1 := by kernel_rfl
  unfold Laid_P10 Lib.TabIs World.var? at *
  rw [hg] at h ⊢
  simp only [Option.bind_some] at h ⊢
  have hlt : 1 < w.heap.size := by
    rcases Nat.lt_or_ge 1 w.heap.size with c | c
    · exact c
    · rw [Array.getElem?_eq_none c] at h; simp at h
  rw [hb.block _ hlt]; exact h

theorem info5 : (Tryd.prog.info? 5).map (fun i => (i.zero, i.size, i.bytes)) = some (some (.int .u8 0), 1, 1) := by kernel_rfl
-- the values' own types

end Go.Proofs.YtmncgmgcngokoaaDoor.Xb
