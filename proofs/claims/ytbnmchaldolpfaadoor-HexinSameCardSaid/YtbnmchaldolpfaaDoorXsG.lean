
/- The reference's packing of noughts, infinities, NaN and of no class. -/
import Derived.Test.YtbnmchaldolpfaaDoorXsT
import Derived.Test.YtbnmchaldolpfaaDoorXsx3
namespace Go.Proofs.YtbnmchaldolpfaaDoor.XsB
open Go.RowKit Go.Proofs.YtbnmchaldolpfaaDoor.Xs Go.Proofs.YtbnmchaldolpfaaDoor.A Go.Proofs.YtbnmchaldolpfaaDoor.Q Go.Proofs.YtbnmchaldolpfaaDoorW.PrintWords Go.Proofs.YtbnmchaldolpfaaDoorW.PrintLast Go.Proofs.YtbnmchaldolpfaaDoorW.PrintMore
set_option linter.unusedSimpArgs false
set_option linter.unusedVariables false
theorem Pack_class {size F E S : Nat} {L : Int} {I : Nat} (h : IsFmt size F E S L I) (k : Nat) (neg : Bool) (c m e : Int) (hc : c < 1 ∨ 4 < c) : bits_Pack.f k neg c m e size = some (0, some 1) := by
  unfold bits_Pack.f
  rw [bind_eq (formatOf_ok h), if_pos (by rfl), if_neg (by omega), if_neg (by omega), if_neg (by omega), if_neg (by omega)]
theorem Pack_none0 {size F E S : Nat} {L : Int} {I : Nat} (h : IsFmt size F E S L I) (k : Nat) (neg : Bool) (e : Int) : bits_Pack.f k neg 2 0 e size = some (0, some 1) := by
  unfold bits_Pack.f
  rw [bind_eq (formatOf_ok h), if_pos (by rfl), if_neg (by decide), if_neg (by decide), if_neg (by decide), if_pos (by rfl), if_pos rfl]
theorem Pack_zero' {size F E S : Nat} {L : Int} {I : Nat} (h : IsFmt size F E S L I) (k : Nat) (neg : Bool) (m e : Int) : bits_Pack.f k neg 1 m e size = some (((sgn S neg 0 : Nat) : Int), none) := by
  rw [Pack_zero h]; unfold sgn
  cases neg
  · rfl
  · rw [if_pos rfl, if_pos rfl, Nat.zero_add]
theorem Pack_inf' {size F E S : Nat} {L : Int} {I : Nat} (h : IsFmt size F E S L I) (k : Nat) (neg : Bool) (m e : Int) : bits_Pack.f k neg 3 m e size = some (((sgn S neg I : Nat) : Int), none) := Pack_inf h k neg m e
end Go.Proofs.YtbnmchaldolpfaaDoor.XsB
