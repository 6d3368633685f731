
/- The reference's packing of fine floats: its two loops come to the normal form. -/
import Derived.Test.YtdddkkojgepnmaaDoorXbD
import Derived.Test.YtdddkkojgepnmaaDoorXbx6
namespace Go.Proofs.YtdddkkojgepnmaaDoor.XbB
open Go.RowKit Go.Proofs.YtdddkkojgepnmaaDoor.Xb Go.Proofs.YtdddkkojgepnmaaDoor.A Go.Proofs.YtdddkkojgepnmaaDoorW.PrintWords Go.Proofs.YtdddkkojgepnmaaDoorW.PrintLast Go.Proofs.YtdddkkojgepnmaaDoorW.PrintMore
set_option linter.unusedSimpArgs false
set_option linter.unusedVariables false

theorem and_one {a : Nat} (ha : a < 18446744073709551616) : Go.bits .and .u64 (a : Int) 1 = ((a % 2 : Nat) : Int) := and_mask a 1 ha (by omega)
theorem rtop_ok {size F E S : Nat} {L : Int} {I : Nat} (h : IsFmt size F E S L I) : numeralref11_Top.f size = some (2 ^ E - 1) := by
  rcases h with ⟨rfl, rfl, rfl, rfl, rfl, rfl⟩ | ⟨rfl, rfl, rfl, rfl, rfl, rfl⟩ <;> decide +kernel
/-- The signed bits, or none beside an error. -/
def signv (S : Nat) (neg : Bool) (r : Int × Int) : Int × Int := if r.2 = 0 then (if neg then (r.1 + 2 ^ S, 0) else (r.1, 0)) else (0, r.2)
theorem packv_lt {size F E S : Nat} {L : Int} {I : Nat} (h : IsFmt size F E S L I) {M : Nat} {X : Int} (hM : M < 2 ^ (F + 1)) (hX : L ≤ X) (hf : ¬ X - L + 1 ≥ 2 ^ E - 1) : (X - L).toNat * 2 ^ F + M < 2 ^ S := by
  rcases fmt_E h with ⟨h1, h2, h3, h4⟩ | ⟨h1, h2, h3, h4⟩ <;> rcases h with ⟨_, _, _, hS, _⟩ | ⟨_, hF', _, hS, _⟩ <;> subst h3 <;> subst hS <;> omega
end Go.Proofs.YtdddkkojgepnmaaDoor.XbB
