
/- The reference's bits, and floats packed of their special classes. -/
import Derived.Test.YtdddkkojgepnmaaDoorXcB
import Derived.Test.YtdddkkojgepnmaaDoorXcx10
import Derived.Test.YtdddkkojgepnmaaDoorXcx3
import Derived.Test.YtdddkkojgepnmaaDoorXcx6
import Derived.Test.YtdddkkojgepnmaaDoorXcx8
namespace Go.Proofs.YtdddkkojgepnmaaDoor.XcB
open Go.RowKit Go.Proofs.YtdddkkojgepnmaaDoor.Xc Go.Proofs.YtdddkkojgepnmaaDoor.A Go.Proofs.YtdddkkojgepnmaaDoorW.PrintWords Go.Proofs.YtdddkkojgepnmaaDoorW.PrintLast Go.Proofs.YtdddkkojgepnmaaDoorW.PrintMore
set_option linter.unusedSimpArgs false
set_option linter.unusedVariables false

theorem rsize_ok {size F E S : Nat} {L : Int} {I : Nat} (h : IsFmt size F E S L I) : numeralref11_Size.f size = some true := by
  rcases h with ⟨rfl, rfl, rfl, rfl, rfl, rfl⟩ | ⟨rfl, rfl, rfl, rfl, rfl, rfl⟩ <;> decide +kernel
theorem rsize_bad {size : Int} (h1 : size ≠ 32) (h2 : size ≠ 64) : numeralref11_Size.f size = some false := by
  unfold numeralref11_Size.f; rw [if_neg h1, beq_eq_false_iff_ne.mpr h2]
theorem rsign_ok {size F E S : Nat} {L : Int} {I : Nat} (h : IsFmt size F E S L I) : numeralref11_sign.f size = some ((2 ^ S : Nat) : Int) := by
  rcases h with ⟨rfl, rfl, rfl, rfl, rfl, rfl⟩ | ⟨rfl, rfl, rfl, rfl, rfl, rfl⟩ <;> decide +kernel
theorem rinf_ok {size F E S : Nat} {L : Int} {I : Nat} (h : IsFmt size F E S L I) : numeralref11_inf.f size = some (I : Int) := by
  rcases h with ⟨rfl, rfl, rfl, rfl, rfl, rfl⟩ | ⟨rfl, rfl, rfl, rfl, rfl, rfl⟩ <;> decide +kernel
theorem rfrac_ok {size F E S : Nat} {L : Int} {I : Nat} (h : IsFmt size F E S L I) : numeralref11_Frac.f size = some (F : Int) := by
  rcases h with ⟨rfl, rfl, rfl, rfl, rfl, rfl⟩ | ⟨rfl, rfl, rfl, rfl, rfl, rfl⟩ <;> decide +kernel
theorem rlow_ok {size F E S : Nat} {L : Int} {I : Nat} (h : IsFmt size F E S L I) : numeralref11_Low.f size = some L := by
  rcases h with ⟨rfl, rfl, rfl, rfl, rfl, rfl⟩ | ⟨rfl, rfl, rfl, rfl, rfl, rfl⟩ <;> decide +kernel
/-- The canonical NaN. -/
def nanOf (F I : Nat) : Nat := I + 2 ^ (F - 1)
theorem rnan_ok {size F E S : Nat} {L : Int} {I : Nat} (h : IsFmt size F E S L I) : numeralref11_NaN.f size = some (nanOf F I : Int) := by
  rcases h with ⟨rfl, rfl, rfl, rfl, rfl, rfl⟩ | ⟨rfl, rfl, rfl, rfl, rfl, rfl⟩ <;> decide +kernel
theorem rcheck_ok {size F E S : Nat} {L : Int} {I : Nat} (h : IsFmt size F E S L I) {a : Nat} (ha : a < 2 ^ (S + 1)) : numeralref11_Check.f a size = some 0 := by
  unfold numeralref11_Check.f
  rw [bind_eq (rsize_ok h), if_pos rfl]
  rcases h with ⟨rfl, rfl, rfl, rfl, rfl, rfl⟩ | ⟨rfl, rfl, rfl, rfl, rfl, rfl⟩
  · rw [if_pos (by rfl), if_pos (by omega)]
  · rw [if_neg (by decide)]
theorem rcheck_big {a : Nat} (ha : 4294967296 ≤ a) : numeralref11_Check.f a 32 = some 1 := by
  unfold numeralref11_Check.f
  have h1 : numeralref11_Size.f 32 = some true := rsize_ok fmt32
  rw [bind_eq h1, if_pos rfl, if_pos rfl, if_neg (by omega)]
theorem rcheck_bad {a size : Int} (h1 : size ≠ 32) (h2 : size ≠ 64) : numeralref11_Check.f a size = some 5 := by
  unfold numeralref11_Check.f
  rw [bind_eq (rsize_bad h1 h2), if_neg (by simp)]
theorem rmag_ok {size F E S : Nat} {L : Int} {I : Nat} (h : IsFmt size F E S L I) {a : Nat} (ha : a < 2 ^ (S + 1)) : numeralref11_Mag.f a size = some ((a % 2 ^ S : Nat) : Int) := by
  unfold numeralref11_Mag.f
  rw [bind_eq (rsign_ok h), mag_ok h ha]
theorem rof_ok {size F E S : Nat} {L : Int} {I : Nat} (h : IsFmt size F E S L I) {a : Nat} (ha : a < 2 ^ (S + 1)) : numeralref11_Of.f a size = some (cls I (a % 2 ^ S)) := by
  unfold numeralref11_Of.f
  rw [bind_eq (rmag_ok h ha)]
  generalize a % 2 ^ S = m
  unfold cls
  by_cases h1 : m = 0
  · rw [if_pos (by omega), if_pos h1]
  · rw [if_neg (by omega), if_neg h1, bind_eq (rinf_ok h)]
    by_cases h2 : m < I
    · rw [if_pos (by omega), if_pos h2]
    · rw [if_neg (by omega), if_neg h2, bind_eq (rinf_ok h)]
      by_cases h3 : m = I
      · rw [if_pos (by omega), if_pos h3]
      · rw [if_neg (by omega), if_neg h3]
theorem fmt_small {size F E S : Nat} {L : Int} {I : Nat} (h : IsFmt size F E S L I) : 0 < F ∧ F < 63 ∧ S + 1 ≤ 64 ∧ F < S ∧ (L = -149 ∨ L = -1074) ∧ (size = 32 ∨ size = 64) ∧ 23 ≤ F := by
  rcases h with ⟨rfl, rfl, rfl, rfl, rfl, rfl⟩ | ⟨rfl, rfl, rfl, rfl, rfl, rfl⟩ <;> simp
theorem rparts_ok {size F E S : Nat} {L : Int} {I : Nat} (h : IsFmt size F E S L I) {a : Nat} (ha : a < 2 ^ (S + 1)) : numeralref11_Parts.f a size = some ((mantOf F (a % 2 ^ S) : Int), expOf F L (a % 2 ^ S)) := by
  obtain ⟨hF0, hF, hS, hFS, hL, _, hF23⟩ := fmt_small h
  have ha64 := pow_le64 hS
  have hm : a % 2 ^ S ≤ a := Nat.mod_le _ _
  unfold numeralref11_Parts.f
  rw [bind_eq (rmag_ok h ha), bind_eq (rfrac_ok h)]
  generalize a % 2 ^ S = m at *
  have hdl : m / 2 ^ F ≤ m / 2 ^ 23 := Nat.div_le_div_left (Nat.pow_le_pow_right (by decide) hF23) (Nat.two_pow_pos _)
  have hd : m / 2 ^ F < 4398046511104 := by omega
  rw [wrapu_id (n := (F : Int)) (by omega) (by omega), if_pos (by omega), shr_u _ F (by omega)]
  generalize hq : m / 2 ^ F = q at *
  rw [wrapi_id (n := (q : Int)) (by omega) (by omega)]
  unfold mantOf expOf
  rw [hq]
  by_cases h0 : q = 0
  · rw [if_pos (by omega), if_pos h0, if_pos h0, bind_eq (rlow_ok h), mask_u F (by omega), and_mask _ F (by omega) (by omega)]
  · rw [if_neg (by omega), if_neg h0, if_neg h0, bind_eq (rlow_ok h), mask_u F (by omega), and_mask _ F (by omega) (by omega), shl1 F (by omega), or_top F _ hF, wrapi_id (n := L + (q : Int)) (by omega) (by omega), wrapi_id (by omega) (by omega)]
theorem and_sign {S a : Nat} (hS : S + 1 ≤ 64) (ha : a < 2 ^ (S + 1)) : (Go.bits .and .u64 (a : Int) ((2 ^ S : Nat) : Int) != 0) = decide (2 ^ S ≤ a) := by
  have ha64 := pow_le64 hS
  have hs : 2 ^ (S + 1) = 2 ^ S * 2 := Nat.pow_succ ..
  rw [and_u _ _ (by omega) (by omega)]
  by_cases h : 2 ^ S ≤ a
  · have ht : a.testBit S = true := by
      rw [Nat.testBit_eq_decide_div_mod_eq]
      have : a / 2 ^ S = 1 := by apply Nat.div_eq_of_lt_le <;> omega
      simp [this]
    rw [decide_eq_true h, bne_iff_ne]
    intro hz
    have hz2 : a &&& 2 ^ S = 0 := by omega
    have := congrArg (fun x => Nat.testBit x S) hz2
    simp [Nat.testBit_and, ht] at this
  · have hz2 : a &&& 2 ^ S = 0 := by
      apply Nat.eq_of_testBit_eq
      intro i
      rw [Nat.testBit_and, Nat.testBit_two_pow, Nat.zero_testBit]
      by_cases hi : S = i
      · subst hi
        rw [Nat.testBit_lt_two_pow (by omega)]; rfl
      · simp [hi]
    rw [decide_eq_false h, hz2]
    rfl
theorem runpack_ok {size F E S : Nat} {L : Int} {I : Nat} (h : IsFmt size F E S L I) {a : Nat} (ha : a < 2 ^ (S + 1)) :
    numeralref11_Unpack.f a size = some ((unp F S L I a).1, (unp F S L I a).2.1, (unp F S L I a).2.2.1, (unp F S L I a).2.2.2, 0) := by
  obtain ⟨hF0, hF, hS, hFS, hL, _, hF23⟩ := fmt_small h
  unfold numeralref11_Unpack.f
  rw [bind_eq (rcheck_ok h ha), if_pos rfl, bind_eq (rsign_ok h), bind_eq (rof_ok h ha), and_sign hS ha, bind_eq (rparts_ok h ha)]
  unfold unp
  dsimp only
  generalize a % 2 ^ S = m
  by_cases h4 : cls I m = 4
  · rw [if_pos h4, if_pos h4, h4]
  · rw [if_neg h4, if_neg h4]
    by_cases h2 : cls I m = 2
    · rw [if_pos h2, if_pos h2, h2]
    · rw [if_neg h2, if_neg h2]
theorem runpack_big {a : Nat} (ha : 4294967296 ≤ a) : numeralref11_Unpack.f a 32 = some (false, 0, 0, 0, 1) := by
  unfold numeralref11_Unpack.f; rw [bind_eq (rcheck_big ha), if_neg (by decide)]
theorem runpack_bad {a size : Int} (h1 : size ≠ 32) (h2 : size ≠ 64) : numeralref11_Unpack.f a size = some (false, 0, 0, 0, 5) := by
  unfold numeralref11_Unpack.f; rw [bind_eq (rcheck_bad h1 h2), if_neg (by decide)]
/-! packing: NaN, noughts, infinities -/
theorem Pack_nan {size F E S : Nat} {L : Int} {I : Nat} (h : IsFmt size F E S L I) (k : Nat) (neg : Bool) (m e : Int) : bits_Pack.f k neg 4 m e size = some ((nanOf F I : Int), none) := by
  unfold bits_Pack.f
  rw [bind_eq (formatOf_ok h), if_pos (by rfl), if_neg (by decide), if_neg (by decide), if_pos (by rfl), bind_eq (inf_ok h)]
  rcases h with ⟨rfl, rfl, rfl, rfl, rfl, rfl⟩ | ⟨rfl, rfl, rfl, rfl, rfl, rfl⟩ <;> decide +kernel
theorem Pack_zero {size F E S : Nat} {L : Int} {I : Nat} (h : IsFmt size F E S L I) (k : Nat) (neg : Bool) (m e : Int) : bits_Pack.f k neg 1 m e size = some (((if neg then 2 ^ S else 0 : Nat) : Int), none) := by
  unfold bits_Pack.f
  rw [bind_eq (formatOf_ok h), if_pos (by rfl), if_pos (by rfl), bind_eq (sign_ok h)]
  cases neg
  · simp
  · rcases h with ⟨rfl, rfl, rfl, rfl, rfl, rfl⟩ | ⟨rfl, rfl, rfl, rfl, rfl, rfl⟩ <;> decide +kernel
theorem Pack_inf {size F E S : Nat} {L : Int} {I : Nat} (h : IsFmt size F E S L I) (k : Nat) (neg : Bool) (m e : Int) : bits_Pack.f k neg 3 m e size = some (((if neg then I + 2 ^ S else I : Nat) : Int), none) := by
  unfold bits_Pack.f
  rw [bind_eq (formatOf_ok h), if_pos (by rfl), if_neg (by decide), if_pos (by rfl), bind_eq (inf_ok h), bind_eq (sign_ok h)]
  cases neg
  · simp
  · rcases h with ⟨rfl, rfl, rfl, rfl, rfl, rfl⟩ | ⟨rfl, rfl, rfl, rfl, rfl, rfl⟩ <;> decide +kernel
theorem Pack_bad {size : Int} (h1 : size ≠ 32) (h2 : size ≠ 64) (k : Nat) (neg : Bool) (c m e : Int) : bits_Pack.f k neg c m e size = some (0, some 5) := by
  unfold bits_Pack.f
  rw [bind_eq (formatOf_bad h1 h2), if_neg (by simp)]
  rfl
theorem size_cases (a : Nat) (ha : a < 18446744073709551616) (s : Int) : (∃ (z F E S : Nat) (L : Int) (I : Nat), s = z ∧ IsFmt z F E S L I ∧ a < 2 ^ (S + 1)) ∨ (s = 32 ∧ 4294967296 ≤ a) ∨ (s ≠ 32 ∧ s ≠ 64) := by
  by_cases h1 : s = 32
  · by_cases h2 : a < 4294967296
    · exact .inl ⟨32, 23, 8, 31, -149, 2139095040, h1, fmt32, h2⟩
    · exact .inr (.inl ⟨h1, by omega⟩)
  · by_cases h2 : s = 64
    · exact .inl ⟨64, 52, 11, 63, -1074, 9218868437227405312, h2, fmt64, ha⟩
    · exact .inr (.inr ⟨h1, h2⟩)
theorem fmt_I {size F E S : Nat} {L : Int} {I : Nat} (h : IsFmt size F E S L I) : 0 < I ∧ I < 2 ^ S ∧ S ≤ 63 := by
  rcases h with ⟨rfl, rfl, rfl, rfl, rfl, rfl⟩ | ⟨rfl, rfl, rfl, rfl, rfl, rfl⟩ <;> simp
theorem Signed_ok {size F E S : Nat} {L : Int} {I : Nat} (h : IsFmt size F E S L I) (neg : Bool) {x : Nat} (hx : x < 2 ^ S) : numeralref11_Signed.f neg x size = some (((if neg then x + 2 ^ S else x : Nat) : Int)) := by
  obtain ⟨hI0, hI, hS⟩ := fmt_I h
  have h4 : 2 ^ S ≤ 2 ^ 63 := Nat.pow_le_pow_right (by decide) hS
  unfold numeralref11_Signed.f
  cases neg
  · rfl
  · rw [if_pos rfl, bind_eq (rsign_ok h), if_pos rfl]
    have := or_disj' 1 x S hx (by omega)
    rw [Nat.one_mul, Nat.add_comm] at this
    rw [this]
theorem num_none : numerallaw11_num.f none = some 0 := rfl
theorem num_some (c : Int) : numerallaw11_num.f (some c) = some c := rfl
theorem sure_ok (k : Nat) : numerallaw11_sure.f k = some true := by
  unfold numerallaw11_sure.f
  have h1 : bits_Unpack.f 4609434218613702656 64 = some (false, 2, 6755399441055744, -52, none) := by decide +kernel
  have h2 : bits_NaN.f k 32 = some (2143289344, none) := by
    unfold bits_NaN.f
    have h3 : bits_Pack.f k false 4 0 0 32 = some (((nanOf 23 2139095040 : Nat) : Int), none) := Pack_nan fmt32 k false 0 0
    rw [bind_eq h3]
    decide +kernel
  rw [bind_eq h1, bind_eq h2]
  decide +kernel
end Go.Proofs.YtdddkkojgepnmaaDoor.XcB
