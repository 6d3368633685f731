
/- The reference's bits, and floats packed of their special classes. -/
import Derived.Test.YtbnmchaldolpfaaDoorXsB
import Derived.Test.YtbnmchaldolpfaaDoorXsx3
namespace Go.Proofs.YtbnmchaldolpfaaDoor.XsB
open Go.RowKit Go.Proofs.YtbnmchaldolpfaaDoor.Xs Go.Proofs.YtbnmchaldolpfaaDoor.A Go.Proofs.YtbnmchaldolpfaaDoorW.PrintWords Go.Proofs.YtbnmchaldolpfaaDoorW.PrintLast Go.Proofs.YtbnmchaldolpfaaDoorW.PrintMore
set_option linter.unusedSimpArgs false
set_option linter.unusedVariables false

/-- The canonical NaN. -/
def nanOf (F I : Nat) : Nat := I + 2 ^ (F - 1)
theorem fmt_small {size F E S : Nat} {L : Int} {I : Nat} (h : IsFmt size F E S L I) : 0 < F ∧ F < 63 ∧ S + 1 ≤ 64 ∧ F < S ∧ (L = -149 ∨ L = -1074) ∧ (size = 32 ∨ size = 64) ∧ 23 ≤ F := by
  rcases h with ⟨rfl, rfl, rfl, rfl, rfl, rfl⟩ | ⟨rfl, rfl, rfl, rfl, rfl, rfl⟩ <;> simp
theorem and_sign {S a : Nat} (hS : S + 1 ≤ 64) (ha : a < 2 ^ (S + 1)) : (Go.bits .and .u64 (a : Int) ((2 ^ S : Nat) : Int) != 0) = decide (2 ^ S ≤ a) := by
  have ha64 := pow_le64 hS
  have hs : 2 ^ (S + 1) = 2 ^ S * 2 := Nat.pow_succ ..
  rw [and_u _ _ (by omega) (by omega)]
  by_cases h : 2 ^ S ≤ a
  · have ht : a.testBit S = true := by
      rw [Nat.testBit_eq_decide_div_mod_eq]
      have : a / 2 ^ S = 1 := by apply Nat.div_eq_of_lt_le <;> omega
      simp [this]
    rw [decide_eq_true h, bne_iff_ne]
    intro hz
    have hz2 : a &&& 2 ^ S = 0 := by omega
    have := congrArg (fun x => Nat.testBit x S) hz2
    simp [Nat.testBit_and, ht] at this
  · have hz2 : a &&& 2 ^ S = 0 := by
      apply Nat.eq_of_testBit_eq
      intro i
      rw [Nat.testBit_and, Nat.testBit_two_pow, Nat.zero_testBit]
      by_cases hi : S = i
      · subst hi
        rw [Nat.testBit_lt_two_pow (by omega)]; rfl
      · simp [hi]
    rw [decide_eq_false h, hz2]
    rfl
/-! packing: NaN, noughts, infinities -/
theorem Pack_nan {size F E S : Nat} {L : Int} {I : Nat} (h : IsFmt size F E S L I) (k : Nat) (neg : Bool) (m e : Int) : bits_Pack.f k neg 4 m e size = some ((nanOf F I : Int), none) := by
  unfold bits_Pack.f
  rw [bind_eq (formatOf_ok h), if_pos (by rfl), if_neg (by decide), if_neg (by decide), if_pos (by rfl), bind_eq (inf_ok h)]
  rcases h with ⟨rfl, rfl, rfl, rfl, rfl, rfl⟩ | ⟨rfl, rfl, rfl, rfl, rfl, rfl⟩ <;> decide +kernel
theorem Pack_zero {size F E S : Nat} {L : Int} {I : Nat} (h : IsFmt size F E S L I) (k : Nat) (neg : Bool) (m e : Int) : bits_Pack.f k neg 1 m e size = some (((if neg then 2 ^ S else 0 : Nat) : Int), none) := by
  unfold bits_Pack.f
  rw [bind_eq (formatOf_ok h), if_pos (by rfl), if_pos (by rfl), bind_eq (sign_ok h)]
  cases neg
  · simp
  · rcases h with ⟨rfl, rfl, rfl, rfl, rfl, rfl⟩ | ⟨rfl, rfl, rfl, rfl, rfl, rfl⟩ <;> decide +kernel
theorem Pack_inf {size F E S : Nat} {L : Int} {I : Nat} (h : IsFmt size F E S L I) (k : Nat) (neg : Bool) (m e : Int) : bits_Pack.f k neg 3 m e size = some (((if neg then I + 2 ^ S else I : Nat) : Int), none) := by
  unfold bits_Pack.f
  rw [bind_eq (formatOf_ok h), if_pos (by rfl), if_neg (by decide), if_pos (by rfl), bind_eq (inf_ok h), bind_eq (sign_ok h)]
  cases neg
  · simp
  · rcases h with ⟨rfl, rfl, rfl, rfl, rfl, rfl⟩ | ⟨rfl, rfl, rfl, rfl, rfl, rfl⟩ <;> decide +kernel
theorem Pack_bad {size : Int} (h1 : size ≠ 32) (h2 : size ≠ 64) (k : Nat) (neg : Bool) (c m e : Int) : bits_Pack.f k neg c m e size = some (0, some 5) := by
  unfold bits_Pack.f
  rw [bind_eq (formatOf_bad h1 h2), if_neg (by simp)]
  rfl
theorem size_cases (a : Nat) (ha : a < 18446744073709551616) (s : Int) : (∃ (z F E S : Nat) (L : Int) (I : Nat), s = z ∧ IsFmt z F E S L I ∧ a < 2 ^ (S + 1)) ∨ (s = 32 ∧ 4294967296 ≤ a) ∨ (s ≠ 32 ∧ s ≠ 64) := by
  by_cases h1 : s = 32
  · by_cases h2 : a < 4294967296
    · exact .inl ⟨32, 23, 8, 31, -149, 2139095040, h1, fmt32, h2⟩
    · exact .inr (.inl ⟨h1, by omega⟩)
  · by_cases h2 : s = 64
    · exact .inl ⟨64, 52, 11, 63, -1074, 9218868437227405312, h2, fmt64, ha⟩
    · exact .inr (.inr ⟨h1, h2⟩)
theorem fmt_I {size F E S : Nat} {L : Int} {I : Nat} (h : IsFmt size F E S L I) : 0 < I ∧ I < 2 ^ S ∧ S ≤ 63 := by
  rcases h with ⟨rfl, rfl, rfl, rfl, rfl, rfl⟩ | ⟨rfl, rfl, rfl, rfl, rfl, rfl⟩ <;> simp
end Go.Proofs.YtbnmchaldolpfaaDoor.XsB
