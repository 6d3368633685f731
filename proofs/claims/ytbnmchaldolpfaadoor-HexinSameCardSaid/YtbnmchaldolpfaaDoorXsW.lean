
/- A float of 32 bits that was widened is narrowed to itself. -/
import Derived.Test.YtbnmchaldolpfaaDoorXsV

namespace Go.Proofs.YtbnmchaldolpfaaDoor.XsB
open Go.RowKit Go.Proofs.YtbnmchaldolpfaaDoor.Xs Go.Proofs.YtbnmchaldolpfaaDoor.A Go.Proofs.YtbnmchaldolpfaaDoorW.PrintWords Go.Proofs.YtbnmchaldolpfaaDoorW.PrintLast Go.Proofs.YtbnmchaldolpfaaDoorW.PrintMore
set_option linter.unusedSimpArgs false
set_option linter.unusedVariables false
/-- The signed float of a magnitude. -/
def sgn (S : Nat) (neg : Bool) (m : Nat) : Nat := if neg then m + 2 ^ S else m
theorem sgn_mod {S m : Nat} (neg : Bool) (hm : m < 2 ^ S) : sgn S neg m % 2 ^ S = m ∧ decide (2 ^ S ≤ sgn S neg m) = neg ∧ sgn S neg m < 2 ^ (S + 1) := by
  have hs : 2 ^ (S + 1) = 2 ^ S * 2 := Nat.pow_succ ..
  unfold sgn
  cases neg
  · refine ⟨Nat.mod_eq_of_lt hm, decide_eq_false (by simp; omega), by simp; omega⟩
  · refine ⟨?_, decide_eq_true (by simp), by simp; omega⟩
    rw [if_pos rfl, Nat.add_mod_right, Nat.mod_eq_of_lt hm]
theorem sgn_self {S a : Nat} (ha : a < 2 ^ (S + 1)) : sgn S (decide (2 ^ S ≤ a)) (a % 2 ^ S) = a := by
  have hs : 2 ^ (S + 1) = 2 ^ S * 2 := Nat.pow_succ ..
  unfold sgn
  by_cases hn : 2 ^ S ≤ a
  · rw [decide_eq_true hn, if_pos rfl, Nat.mod_eq_sub_mod hn, Nat.mod_eq_of_lt (by omega)]; omega
  · rw [decide_eq_false hn, if_neg (by decide), Nat.mod_eq_of_lt (by omega)]
theorem signv_nat (S : Nat) (neg : Bool) (q : Nat) : signv S neg ((q : Int), 0) = (((sgn S neg q : Nat) : Int), 0) := by
  unfold signv sgn
  cases neg
  · rfl
  · rw [if_pos rfl, if_pos rfl, if_pos rfl, Int.natCast_add, Int.natCast_pow]; rfl
theorem cls_three {I m : Nat} (h : cls I m = 3) : m = I := by
  unfold cls at h
  by_cases h1 : m = 0
  · rw [if_pos h1] at h; exact absurd h (by decide)
  · rw [if_neg h1] at h
    by_cases h2 : m < I
    · rw [if_pos h2] at h; exact absurd h (by decide)
    · rw [if_neg h2] at h
      by_cases h3 : m = I
      · exact h3
      · rw [if_neg h3] at h; exact absurd h (by decide)
theorem cls_one {I m : Nat} (h : cls I m = 1) : m = 0 := by
  unfold cls at h
  by_cases h1 : m = 0
  · exact h1
  · rw [if_neg h1] at h
    by_cases h2 : m < I
    · rw [if_pos h2] at h; exact absurd h (by decide)
    · rw [if_neg h2] at h
      by_cases h3 : m = I
      · rw [if_pos h3] at h; exact absurd h (by decide)
      · rw [if_neg h3] at h; exact absurd h (by decide)
theorem cls_cases (I m : Nat) : cls I m = 1 ∨ cls I m = 2 ∨ cls I m = 3 ∨ cls I m = 4 := by
  unfold cls
  by_cases h1 : m = 0
  · rw [if_pos h1]; simp
  · rw [if_neg h1]
    by_cases h2 : m < I
    · rw [if_pos h2]; simp
    · rw [if_neg h2]
      by_cases h3 : m = I
      · rw [if_pos h3]; simp
      · rw [if_neg h3]; simp
theorem unp_of {F S : Nat} {L : Int} {I : Nat} {neg : Bool} {m : Nat} (hm : m < 2 ^ S) (c : Int) (hc : cls I m = c) (h4 : c ≠ 4) (h2 : c ≠ 2) : unp F S L I (sgn S neg m) = (neg, c, 0, 0) := by
  obtain ⟨e1, e2, _⟩ := sgn_mod neg hm
  unfold unp
  dsimp only
  rw [e1, e2, hc, if_neg h4, if_neg h2]
theorem unp_fine {F S : Nat} {L : Int} {I : Nat} {neg : Bool} {m : Nat} (hm : m < 2 ^ S) (hc : cls I m = 2) : unp F S L I (sgn S neg m) = (neg, 2, (mantOf F m : Int), expOf F L m) := by
  obtain ⟨e1, e2, _⟩ := sgn_mod neg hm
  unfold unp
  dsimp only
  rw [e1, e2, hc, if_neg (by decide), if_pos rfl]
end Go.Proofs.YtbnmchaldolpfaaDoor.XsB
