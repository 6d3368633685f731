
/- The reference's bits, and floats packed of their special classes. -/
import Derived.Test.YtdddkkojgepnmaaDoorXpB
import Derived.Test.YtdddkkojgepnmaaDoorXpx3
import Derived.Test.YtdddkkojgepnmaaDoorXpx6
import Derived.Test.YtdddkkojgepnmaaDoorXpx7
import Derived.Test.YtdddkkojgepnmaaDoorXpx9
namespace Go.Proofs.YtdddkkojgepnmaaDoor.XpB
open Go.RowKit Go.Proofs.YtdddkkojgepnmaaDoor.Xp Go.Proofs.YtdddkkojgepnmaaDoor.A Go.Proofs.YtdddkkojgepnmaaDoorW.PrintWords Go.Proofs.YtdddkkojgepnmaaDoorW.PrintLast Go.Proofs.YtdddkkojgepnmaaDoorW.PrintMore
set_option linter.unusedSimpArgs false
set_option linter.unusedVariables false

theorem rsize_ok {size F E S : Nat} {L : Int} {I : Nat} (h : IsFmt size F E S L I) : numeralref11_Size.f size = some true := by
  rcases h with ⟨rfl, rfl, rfl, rfl, rfl, rfl⟩ | ⟨rfl, rfl, rfl, rfl, rfl, rfl⟩ <;> decide +kernel
theorem rsize_bad {size : Int} (h1 : size ≠ 32) (h2 : size ≠ 64) : numeralref11_Size.f size = some false := by
  unfold numeralref11_Size.f; rw [if_neg h1, beq_eq_false_iff_ne.mpr h2]
theorem rsign_ok {size F E S : Nat} {L : Int} {I : Nat} (h : IsFmt size F E S L I) : numeralref11_sign.f size = some ((2 ^ S : Nat) : Int) := by
  rcases h with ⟨rfl, rfl, rfl, rfl, rfl, rfl⟩ | ⟨rfl, rfl, rfl, rfl, rfl, rfl⟩ <;> decide +kernel
theorem rinf_ok {size F E S : Nat} {L : Int} {I : Nat} (h : IsFmt size F E S L I) : numeralref11_inf.f size = some (I : Int) := by
  rcases h with ⟨rfl, rfl, rfl, rfl, rfl, rfl⟩ | ⟨rfl, rfl, rfl, rfl, rfl, rfl⟩ <;> decide +kernel
theorem rfrac_ok {size F E S : Nat} {L : Int} {I : Nat} (h : IsFmt size F E S L I) : numeralref11_Frac.f size = some (F : Int) := by
  rcases h with ⟨rfl, rfl, rfl, rfl, rfl, rfl⟩ | ⟨rfl, rfl, rfl, rfl, rfl, rfl⟩ <;> decide +kernel
theorem rlow_ok {size F E S : Nat} {L : Int} {I : Nat} (h : IsFmt size F E S L I) : numeralref11_Low.f size = some L := by
  rcases h with ⟨rfl, rfl, rfl, rfl, rfl, rfl⟩ | ⟨rfl, rfl, rfl, rfl, rfl, rfl⟩ <;> decide +kernel
/-- The canonical NaN. -/
def nanOf (F I : Nat) : Nat := I + 2 ^ (F - 1)
theorem rnan_ok {size F E S : Nat} {L : Int} {I : Nat} (h : IsFmt size F E S L I) : numeralref11_NaN.f size = some (nanOf F I : Int) := by
  rcases h with ⟨rfl, rfl, rfl, rfl, rfl, rfl⟩ | ⟨rfl, rfl, rfl, rfl, rfl, rfl⟩ <;> decide +kernel
theorem fmt_small {size F E S : Nat} {L : Int} {I : Nat} (h : IsFmt size F E S L I) : 0 < F ∧ F < 63 ∧ S + 1 ≤ 64 ∧ F < S ∧ (L = -149 ∨ L = -1074) ∧ (size = 32 ∨ size = 64) ∧ 23 ≤ F := by
  rcases h with ⟨rfl, rfl, rfl, rfl, rfl, rfl⟩ | ⟨rfl, rfl, rfl, rfl, rfl, rfl⟩ <;> simp
theorem and_sign {S a : Nat} (hS : S + 1 ≤ 64) (ha : a < 2 ^ (S + 1)) : (Go.bits .and .u64 (a : Int) ((2 ^ S : Nat) : Int) != 0) = decide (2 ^ S ≤ a) := by
  have ha64 := pow_le64 hS
  have hs : 2 ^ (S + 1) = 2 ^ S * 2 := Nat.pow_succ ..
  rw [and_u _ _ (by omega) (by omega)]
  by_cases h : 2 ^ S ≤ a
  · have ht : a.testBit S = true := by
      rw [Nat.testBit_eq_decide_div_mod_eq]
      have : a / 2 ^ S = 1 := by apply Nat.div_eq_of_lt_le <;> omega
      simp [this]
    rw [decide_eq_true h, bne_iff_ne]
    intro hz
    have hz2 : a &&& 2 ^ S = 0 := by omega
    have := congrArg (fun x => Nat.testBit x S) hz2
    simp [Nat.testBit_and, ht] at this
  · have hz2 : a &&& 2 ^ S = 0 := by
      apply Nat.eq_of_testBit_eq
      intro i
      rw [Nat.testBit_and, Nat.testBit_two_pow, Nat.zero_testBit]
      by_cases hi : S = i
      · subst hi
        rw [Nat.testBit_lt_two_pow (by omega)]; rfl
      · simp [hi]
    rw [decide_eq_false h, hz2]
    rfl
/-! packing: NaN, noughts, infinities -/
theorem Pack_nan {size F E S : Nat} {L : Int} {I : Nat} (h : IsFmt size F E S L I) (k : Nat) (neg : Bool) (m e : Int) : bits_Pack.f k neg 4 m e size = some ((nanOf F I : Int), none) := by
  unfold bits_Pack.f
  rw [bind_eq (formatOf_ok h), if_pos (by rfl), if_neg (by decide), if_neg (by decide), if_pos (by rfl), bind_eq (inf_ok h)]
  rcases h with ⟨rfl, rfl, rfl, rfl, rfl, rfl⟩ | ⟨rfl, rfl, rfl, rfl, rfl, rfl⟩ <;> decide +kernel
theorem Pack_zero {size F E S : Nat} {L : Int} {I : Nat} (h : IsFmt size F E S L I) (k : Nat) (neg : Bool) (m e : Int) : bits_Pack.f k neg 1 m e size = some (((if neg then 2 ^ S else 0 : Nat) : Int), none) := by
  unfold bits_Pack.f
  rw [bind_eq (formatOf_ok h), if_pos (by rfl), if_pos (by rfl), bind_eq (sign_ok h)]
  cases neg
  · simp
  · rcases h with ⟨rfl, rfl, rfl, rfl, rfl, rfl⟩ | ⟨rfl, rfl, rfl, rfl, rfl, rfl⟩ <;> decide +kernel
theorem Pack_inf {size F E S : Nat} {L : Int} {I : Nat} (h : IsFmt size F E S L I) (k : Nat) (neg : Bool) (m e : Int) : bits_Pack.f k neg 3 m e size = some (((if neg then I + 2 ^ S else I : Nat) : Int), none) := by
  unfold bits_Pack.f
  rw [bind_eq (formatOf_ok h), if_pos (by rfl), if_neg (by decide), if_pos (by rfl), bind_eq (inf_ok h), bind_eq (sign_ok h)]
  cases neg
  · simp
  · rcases h with ⟨rfl, rfl, rfl, rfl, rfl, rfl⟩ | ⟨rfl, rfl, rfl, rfl, rfl, rfl⟩ <;> decide +kernel
theorem Pack_bad {size : Int} (h1 : size ≠ 32) (h2 : size ≠ 64) (k : Nat) (neg : Bool) (c m e : Int) : bits_Pack.f k neg c m e size = some (0, some 5) := by
  unfold bits_Pack.f
  rw [bind_eq (formatOf_bad h1 h2), if_neg (by simp)]
  rfl
theorem size_cases (a : Nat) (ha : a < 18446744073709551616) (s : Int) : (∃ (z F E S : Nat) (L : Int) (I : Nat), s = z ∧ IsFmt z F E S L I ∧ a < 2 ^ (S + 1)) ∨ (s = 32 ∧ 4294967296 ≤ a) ∨ (s ≠ 32 ∧ s ≠ 64) := by
  by_cases h1 : s = 32
  · by_cases h2 : a < 4294967296
    · exact .inl ⟨32, 23, 8, 31, -149, 2139095040, h1, fmt32, h2⟩
    · exact .inr (.inl ⟨h1, by omega⟩)
  · by_cases h2 : s = 64
    · exact .inl ⟨64, 52, 11, 63, -1074, 9218868437227405312, h2, fmt64, ha⟩
    · exact .inr (.inr ⟨h1, h2⟩)
theorem fmt_I {size F E S : Nat} {L : Int} {I : Nat} (h : IsFmt size F E S L I) : 0 < I ∧ I < 2 ^ S ∧ S ≤ 63 := by
  rcases h with ⟨rfl, rfl, rfl, rfl, rfl, rfl⟩ | ⟨rfl, rfl, rfl, rfl, rfl, rfl⟩ <;> simp
theorem Signed_ok {size F E S : Nat} {L : Int} {I : Nat} (h : IsFmt size F E S L I) (neg : Bool) {x : Nat} (hx : x < 2 ^ S) : numeralref11_Signed.f neg x size = some (((if neg then x + 2 ^ S else x : Nat) : Int)) := by
  obtain ⟨hI0, hI, hS⟩ := fmt_I h
  have h4 : 2 ^ S ≤ 2 ^ 63 := Nat.pow_le_pow_right (by decide) hS
  unfold numeralref11_Signed.f
  cases neg
  · rfl
  · rw [if_pos rfl, bind_eq (rsign_ok h), if_pos rfl]
    have := or_disj' 1 x S hx (by omega)
    rw [Nat.one_mul, Nat.add_comm] at this
    rw [this]
theorem num_none : numerallaw11_num.f none = some 0 := rfl
theorem num_some (c : Int) : numerallaw11_num.f (some c) = some c := rfl
theorem sure_ok (k : Nat) : numerallaw11_sure.f k = some true := by
  unfold numerallaw11_sure.f
  have h1 : bits_Unpack.f 4609434218613702656 64 = some (false, 2, 6755399441055744, -52, none) := by decide +kernel
  have h2 : bits_NaN.f k 32 = some (2143289344, none) := by
    unfold bits_NaN.f
    have h3 : bits_Pack.f k false 4 0 0 32 = some (((nanOf 23 2139095040 : Nat) : Int), none) := Pack_nan fmt32 k false 0 0
    rw [bind_eq h3]
    decide +kernel
  rw [bind_eq h1, bind_eq h2]
  decide +kernel
end Go.Proofs.YtdddkkojgepnmaaDoor.XpB
