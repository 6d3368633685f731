-- PRINTED by print.py (a twelfth state) out of the translation. Not trusted: Lean checks it.
import Derived.Test.YtbjmfocjigikgaaDoorProg
import Derived.Below
import Derived.Deep.Draws
import Derived.Deep.AppendLies
import Derived.Maps.AppendAt
import Derived.OwnWalk
import Derived.Laws.BytesArg
import Derived.Laws.MakeOwn
import Derived.Laws.OwnMore
import Derived.Deep.OwnRows
import Derived.Tactics
import Derived.Lib.ConvBytes
import Derived.Laws.Slices
import Derived.WalkKit
import Derived.KernelRfl
import Derived.RowKit3
import Derived.Deep.LoopGhost
import Derived.Deep.QuietTactic
import Derived.BigQuiet
import Derived.WideLaws
import Derived.Deep.DeepCutAuto
import Derived.Deep.CutBlock
import Derived.Deep.RegionHeld3
import Derived.Laws.Rows
import Derived.Lib.AppendStr
import Derived.ArgAppend
import Derived.Laws.IdiomCopy
import Derived.OrdersHeld
import Derived.Laws.BitsLemmas
import Derived.RowKit
import Derived.Laws.Bits64b
import Derived.Laws.Externs
import Derived.Lib.TrailingZeros
import Derived.Shelf.Spec.BitsCarry
import Derived.Test.YtbjmfocjigikgaaDoorXiShelf
import Derived.Test.YtbjmfocjigikgaaDoorWWords
import Derived.Test.YtbjmfocjigikgaaDoorWLast
import Derived.Test.YtbjmfocjigikgaaDoorWTab
import Derived.Test.YtbjmfocjigikgaaDoorWFour
import Derived.Test.YtbjmfocjigikgaaDoorWQPut
import Derived.Test.YtbjmfocjigikgaaDoorWApart
import Derived.Test.YtbjmfocjigikgaaDoorWArr
import Derived.Test.YtbjmfocjigikgaaDoorWZeros
import Derived.Test.YtbjmfocjigikgaaDoorWFoot
import Derived.Test.YtbjmfocjigikgaaDoorWKept
import Derived.Test.YtbjmfocjigikgaaDoorWShare
import Derived.Test.YtbjmfocjigikgaaDoorWN
import Derived.Test.YtbjmfocjigikgaaDoorWFootNe
import Derived.Test.YtbjmfocjigikgaaDoorWAt
import Derived.Test.YtbjmfocjigikgaaDoorWEqStruct
import Derived.Test.YtbjmfocjigikgaaDoorWRepsOne
import Derived.Test.YtbjmfocjigikgaaDoorWInv
import Derived.Test.YtbjmfocjigikgaaDoorWInvWords
import Derived.Test.YtbjmfocjigikgaaDoorWGuard
import Derived.Test.YtbjmfocjigikgaaDoorWNEv
import Derived.Test.YtbjmfocjigikgaaDoorWMore
namespace Go.Proofs.YtbjmfocjigikgaaDoor.Xi
open Go.RowKit Go.Proofs.YtbjmfocjigikgaaDoorW.PrintWords Go.Proofs.YtbjmfocjigikgaaDoorW.PrintLast Go.Proofs.YtbjmfocjigikgaaDoorW.PrintMore
attribute [local go_sem] max2_int min2_int max_two min_two max_three min_three max_four min_four   -- for this text's walks alone
set_option linter.unusedVariables false
set_option linter.unusedSimpArgs false



def errW : Option Int → Value
 | none => .nilIface
 | some c => .iface 55 (.int .i64 c)
theorem errW_none : errW none = .nilIface := rfl
theorem errW_some (c : Int) : errW (some c) = .iface 55 (.int .i64 c) := rfl

def u64ok (a : Int) : Bool := decide (0 ≤ a ∧ a < 18446744073709551616)
/-- The table as its initialiser lays it. -/
def tab_DB64 : List Nat := [0, 1, 56, 2, 57, 49, 28, 3, 61, 58, 42, 50, 38, 29, 17, 4, 62, 47, 59, 36, 45, 43, 51, 22, 53, 39, 33, 30, 24, 18, 12, 5, 63, 55, 48, 27, 60, 41, 37, 16, 46, 35, 44, 21, 52, 32, 23, 11, 54, 26, 40, 15, 34, 20, 31, 10, 25, 14, 19, 9, 13, 8, 7, 6]
def Laid_DB64 (w : World) : Prop := ∀ j, j < 64 → w.cell? ⟨0, j, none⟩ = some (.int .u8 (tab_DB64.getD j 0))
theorem Laid_DB64.of_below {w W : World} (h : Laid_DB64 w) (hb : Below w.heap.size w W) : Laid_DB64 W := fun j hj => pw_cell_below hb (h j hj)

theorem info27 : (Tryd.prog.info? 27).map (fun i => (i.zero, i.size, i.bytes)) = some (some (.int .u64 0), 1, 8) := by kernel_rfl
-- the values' own types
def rd_L1 (xs : List (List Int)) (i : Int) : (List Int) := xs.getD i.toNat ([] : List Int)
theorem at_L1 {w : World} {A : Option Addr} {n : Nat} {xs : List (List Int)} (h : Kd.C (Kd.slice 27 (Kd.int .u64)) w A n xs) (i : Int) (h0 : 0 ≤ i) (h1 : i < n) : ∃ ad A0 c0, A = some ad ∧ w.cell? (ad.add i.toNat) = some (.slice A0 (rd_L1 xs i).length c0) ∧ (rd_L1 xs i).length ≤ c0 ∧ (Kd.int .u64).C w A0 (rd_L1 xs i).length (rd_L1 xs i) := by
 obtain ⟨ad, c, e, _, hK, hc0⟩ := Kd.C_get h ([] : List Int) i h0 h1
 have hc : ∀ j u, c[j]? = some u → w.cell? (ad.add (i.toNat * 1 + j)) = some u := hc0
 obtain ⟨A0, c0, rfl, l0, g0⟩ := hK
 exact ⟨ad, A0, c0, e, by have hq := hc 0 _ rfl; rwa [Nat.mul_one, Nat.add_zero] at hq, l0, g0⟩

end Go.Proofs.YtbjmfocjigikgaaDoor.Xi
