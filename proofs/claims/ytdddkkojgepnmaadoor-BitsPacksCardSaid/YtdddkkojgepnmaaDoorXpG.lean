
/- The reference's packing of noughts, infinities, NaN and of no class. -/
import Derived.Test.YtdddkkojgepnmaaDoorXpT
import Derived.Test.YtdddkkojgepnmaaDoorXpx6
import Derived.Test.YtdddkkojgepnmaaDoorXpx7
import Derived.Test.YtdddkkojgepnmaaDoorXpx8
namespace Go.Proofs.YtdddkkojgepnmaaDoor.XpB
open Go.RowKit Go.Proofs.YtdddkkojgepnmaaDoor.Xp Go.Proofs.YtdddkkojgepnmaaDoor.A Go.Proofs.YtdddkkojgepnmaaDoor.Q Go.Proofs.YtdddkkojgepnmaaDoorW.PrintWords Go.Proofs.YtdddkkojgepnmaaDoorW.PrintLast Go.Proofs.YtdddkkojgepnmaaDoorW.PrintMore
set_option linter.unusedSimpArgs false
set_option linter.unusedVariables false
theorem rPack_zero {size F E S : Nat} {L : Int} {I : Nat} (h : IsFmt size F E S L I) (k : Nat) (neg : Bool) (m e : Int) : numeralref11_Pack.f (k + 1) neg 1 m e size = some (((sgn S neg 0 : Nat) : Int), 0) := by
  have hS : numeralref11_Signed.f neg 0 size = some (((if neg then 0 + 2 ^ S else 0 : Nat) : Int)) := Signed_ok h neg (x := 0) (Nat.two_pow_pos S)
  unfold numeralref11_Pack.f
  rw [bind_eq (rsize_ok h), if_pos rfl, if_neg (by decide), if_neg (by decide), if_neg (by decide), numeralref11_Pack.j0, if_pos rfl, bind_eq hS]
  rfl
theorem rPack_inf {size F E S : Nat} {L : Int} {I : Nat} (h : IsFmt size F E S L I) (k : Nat) (neg : Bool) (m e : Int) : numeralref11_Pack.f (k + 1) neg 3 m e size = some (((sgn S neg I : Nat) : Int), 0) := by
  unfold numeralref11_Pack.f
  rw [bind_eq (rsize_ok h), if_pos rfl, if_neg (by decide), if_neg (by decide), if_neg (by decide), numeralref11_Pack.j0, if_neg (by decide), if_pos rfl, bind_eq (rinf_ok h), bind_eq (Signed_ok h neg (fmt_I h).2.1)]
  rfl
theorem rPack_nan {size F E S : Nat} {L : Int} {I : Nat} (h : IsFmt size F E S L I) (k : Nat) (neg : Bool) (m e : Int) : numeralref11_Pack.f (k + 1) neg 4 m e size = some ((nanOf F I : Int), 0) := by
  unfold numeralref11_Pack.f
  rw [bind_eq (rsize_ok h), if_pos rfl, if_neg (by decide), if_neg (by decide), if_neg (by decide), numeralref11_Pack.j0, if_neg (by decide), if_neg (by decide), if_pos rfl, bind_eq (rnan_ok h)]
theorem rPack_bad {size : Int} (h1 : size ≠ 32) (h2 : size ≠ 64) (k : Nat) (neg : Bool) (c m e : Int) : numeralref11_Pack.f k neg c m e size = some (0, 5) := by
  unfold numeralref11_Pack.f
  rw [bind_eq (rsize_bad h1 h2), if_neg (by simp)]
theorem rPack_class {size F E S : Nat} {L : Int} {I : Nat} (h : IsFmt size F E S L I) (k : Nat) (neg : Bool) (c m e : Int) (hc : c < 1 ∨ 4 < c) : numeralref11_Pack.f k neg c m e size = some (0, 1) := by
  unfold numeralref11_Pack.f
  rw [bind_eq (rsize_ok h), if_pos rfl]
  by_cases h1 : c < 1
  · rw [if_pos h1]
  · rw [if_neg h1, if_pos (by omega)]
theorem rPack_none0 {size F E S : Nat} {L : Int} {I : Nat} (h : IsFmt size F E S L I) (k : Nat) (neg : Bool) (e : Int) : numeralref11_Pack.f k neg 2 0 e size = some (0, 1) := by
  unfold numeralref11_Pack.f
  rw [bind_eq (rsize_ok h), if_pos rfl, if_neg (by decide), if_neg (by decide), if_pos rfl, if_pos rfl]
theorem Pack_class {size F E S : Nat} {L : Int} {I : Nat} (h : IsFmt size F E S L I) (k : Nat) (neg : Bool) (c m e : Int) (hc : c < 1 ∨ 4 < c) : bits_Pack.f k neg c m e size = some (0, some 1) := by
  unfold bits_Pack.f
  rw [bind_eq (formatOf_ok h), if_pos (by rfl), if_neg (by omega), if_neg (by omega), if_neg (by omega), if_neg (by omega)]
theorem Pack_none0 {size F E S : Nat} {L : Int} {I : Nat} (h : IsFmt size F E S L I) (k : Nat) (neg : Bool) (e : Int) : bits_Pack.f k neg 2 0 e size = some (0, some 1) := by
  unfold bits_Pack.f
  rw [bind_eq (formatOf_ok h), if_pos (by rfl), if_neg (by decide), if_neg (by decide), if_neg (by decide), if_pos (by rfl), if_pos rfl]
theorem Pack_zero' {size F E S : Nat} {L : Int} {I : Nat} (h : IsFmt size F E S L I) (k : Nat) (neg : Bool) (m e : Int) : bits_Pack.f k neg 1 m e size = some (((sgn S neg 0 : Nat) : Int), none) := by
  rw [Pack_zero h]; unfold sgn
  cases neg
  · rfl
  · rw [if_pos rfl, if_pos rfl, Nat.zero_add]
theorem Pack_inf' {size F E S : Nat} {L : Int} {I : Nat} (h : IsFmt size F E S L I) (k : Nat) (neg : Bool) (m e : Int) : bits_Pack.f k neg 3 m e size = some (((sgn S neg I : Nat) : Int), none) := Pack_inf h k neg m e
/-- Whatever the parts: both answer alike. -/
theorem Pack_all {size F E S : Nat} {L : Int} {I : Nat} (h : IsFmt size F E S L I) (neg : Bool) (c : Int) (m : Nat) (hm : m < 18446744073709551616) (e : Int) (k : Nat) :
    ∃ r : Int × Int, bits_Pack.f (k + 200) neg c (m : Int) e size = some (r.1, errv r.2) ∧ numeralref11_Pack.f (k + 200) neg c (m : Int) e size = some r := by
  by_cases hc : c < 1 ∨ 4 < c
  · exact ⟨(0, 1), Pack_class h _ neg c _ e hc, rPack_class h _ neg c _ e hc⟩
  · obtain rfl | rfl | rfl | rfl : c = 1 ∨ c = 2 ∨ c = 3 ∨ c = 4 := by omega
    · exact ⟨(((sgn S neg 0 : Nat) : Int), 0), Pack_zero' h _ neg _ e, rPack_zero h (k + 199) neg _ e⟩
    · rcases Nat.eq_zero_or_pos m with rfl | h0
      · exact ⟨(0, 1), Pack_none0 h _ neg e, rPack_none0 h _ neg e⟩
      · exact Pack_both h h0 hm e neg k
    · exact ⟨(((sgn S neg I : Nat) : Int), 0), Pack_inf' h _ neg _ e, rPack_inf h (k + 199) neg _ e⟩
    · exact ⟨((nanOf F I : Int), 0), Pack_nan h _ neg _ e, rPack_nan h (k + 199) neg _ e⟩
end Go.Proofs.YtdddkkojgepnmaaDoor.XpB
