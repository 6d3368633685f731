
/- A float of 32 bits that was widened is narrowed to itself. -/
import Derived.Test.YtdddkkojgepnmaaDoorXcV
import Derived.Test.YtdddkkojgepnmaaDoorXcx3
import Derived.Test.YtdddkkojgepnmaaDoorXcx6
import Derived.Test.YtdddkkojgepnmaaDoorXcx7
namespace Go.Proofs.YtdddkkojgepnmaaDoor.XcB
open Go.RowKit Go.Proofs.YtdddkkojgepnmaaDoor.Xc Go.Proofs.YtdddkkojgepnmaaDoor.A Go.Proofs.YtdddkkojgepnmaaDoorW.PrintWords Go.Proofs.YtdddkkojgepnmaaDoorW.PrintLast Go.Proofs.YtdddkkojgepnmaaDoorW.PrintMore
set_option linter.unusedSimpArgs false
set_option linter.unusedVariables false
theorem Unpack32 {a : Nat} (ha : a < 2 ^ 32) : bits_Unpack.f a 32 = some ((unp 23 31 (-149) 2139095040 a).1, (unp 23 31 (-149) 2139095040 a).2.1, (unp 23 31 (-149) 2139095040 a).2.2.1, (unp 23 31 (-149) 2139095040 a).2.2.2, none) := Unpack_ok fmt32 ha
theorem Unpack64 {a : Nat} (ha : a < 2 ^ 64) : bits_Unpack.f a 64 = some ((unp 52 63 (-1074) 9218868437227405312 a).1, (unp 52 63 (-1074) 9218868437227405312 a).2.1, (unp 52 63 (-1074) 9218868437227405312 a).2.2.1, (unp 52 63 (-1074) 9218868437227405312 a).2.2.2, none) := Unpack_ok fmt64 ha
/-- The signed float of a magnitude. -/
def sgn (S : Nat) (neg : Bool) (m : Nat) : Nat := if neg then m + 2 ^ S else m
theorem sgn_mod {S m : Nat} (neg : Bool) (hm : m < 2 ^ S) : sgn S neg m % 2 ^ S = m ∧ decide (2 ^ S ≤ sgn S neg m) = neg ∧ sgn S neg m < 2 ^ (S + 1) := by
  have hs : 2 ^ (S + 1) = 2 ^ S * 2 := Nat.pow_succ ..
  unfold sgn
  cases neg
  · refine ⟨Nat.mod_eq_of_lt hm, decide_eq_false (by simp; omega), by simp; omega⟩
  · refine ⟨?_, decide_eq_true (by simp), by simp; omega⟩
    rw [if_pos rfl, Nat.add_mod_right, Nat.mod_eq_of_lt hm]
theorem sgn_self {S a : Nat} (ha : a < 2 ^ (S + 1)) : sgn S (decide (2 ^ S ≤ a)) (a % 2 ^ S) = a := by
  have hs : 2 ^ (S + 1) = 2 ^ S * 2 := Nat.pow_succ ..
  unfold sgn
  by_cases hn : 2 ^ S ≤ a
  · rw [decide_eq_true hn, if_pos rfl, Nat.mod_eq_sub_mod hn, Nat.mod_eq_of_lt (by omega)]; omega
  · rw [decide_eq_false hn, if_neg (by decide), Nat.mod_eq_of_lt (by omega)]
theorem signv_nat (S : Nat) (neg : Bool) (q : Nat) : signv S neg ((q : Int), 0) = (((sgn S neg q : Nat) : Int), 0) := by
  unfold signv sgn
  cases neg
  · rfl
  · rw [if_pos rfl, if_pos rfl, if_pos rfl, Int.natCast_add, Int.natCast_pow]; rfl
theorem cls_three {I m : Nat} (h : cls I m = 3) : m = I := by
  unfold cls at h
  by_cases h1 : m = 0
  · rw [if_pos h1] at h; exact absurd h (by decide)
  · rw [if_neg h1] at h
    by_cases h2 : m < I
    · rw [if_pos h2] at h; exact absurd h (by decide)
    · rw [if_neg h2] at h
      by_cases h3 : m = I
      · exact h3
      · rw [if_neg h3] at h; exact absurd h (by decide)
theorem cls_one {I m : Nat} (h : cls I m = 1) : m = 0 := by
  unfold cls at h
  by_cases h1 : m = 0
  · exact h1
  · rw [if_neg h1] at h
    by_cases h2 : m < I
    · rw [if_pos h2] at h; exact absurd h (by decide)
    · rw [if_neg h2] at h
      by_cases h3 : m = I
      · rw [if_pos h3] at h; exact absurd h (by decide)
      · rw [if_neg h3] at h; exact absurd h (by decide)
theorem cls_cases (I m : Nat) : cls I m = 1 ∨ cls I m = 2 ∨ cls I m = 3 ∨ cls I m = 4 := by
  unfold cls
  by_cases h1 : m = 0
  · rw [if_pos h1]; simp
  · rw [if_neg h1]
    by_cases h2 : m < I
    · rw [if_pos h2]; simp
    · rw [if_neg h2]
      by_cases h3 : m = I
      · rw [if_pos h3]; simp
      · rw [if_neg h3]; simp
theorem unp_of {F S : Nat} {L : Int} {I : Nat} {neg : Bool} {m : Nat} (hm : m < 2 ^ S) (c : Int) (hc : cls I m = c) (h4 : c ≠ 4) (h2 : c ≠ 2) : unp F S L I (sgn S neg m) = (neg, c, 0, 0) := by
  obtain ⟨e1, e2, _⟩ := sgn_mod neg hm
  unfold unp
  dsimp only
  rw [e1, e2, hc, if_neg h4, if_neg h2]
theorem unp_fine {F S : Nat} {L : Int} {I : Nat} {neg : Bool} {m : Nat} (hm : m < 2 ^ S) (hc : cls I m = 2) : unp F S L I (sgn S neg m) = (neg, 2, (mantOf F m : Int), expOf F L m) := by
  obtain ⟨e1, e2, _⟩ := sgn_mod neg hm
  unfold unp
  dsimp only
  rw [e1, e2, hc, if_neg (by decide), if_pos rfl]
theorem widen_narrow {m : Nat} (neg : Bool) (hm : m < 2 ^ 31) (h4 : cls 2139095040 m ≠ 4) (k : Nat) :
    ∃ w : Nat, bits_Widen.f (k + 3) (sgn 31 neg m) = some ((w : Int), none) ∧ bits_Narrow.f (k + 3) (w : Int) = some (((sgn 31 neg m : Nat) : Int), true, none) := by
  have hlt := (sgn_mod neg hm).2.2
  have hc := cls_cases 2139095040 m
  rcases hc with hc | hc | hc | hc
  · obtain rfl := cls_one hc
    have c64 : cls 9218868437227405312 0 = 1 := by decide
    have h64 := (sgn_mod (S := 63) (m := 0) neg (by decide)).2.2
    refine ⟨sgn 63 neg 0, ?_, ?_⟩
    · unfold bits_Widen.f
      have hz : bits_Pack.f (k + 3) neg 1 0 0 64 = some (((if neg then 2 ^ 63 else 0 : Nat) : Int), none) := Pack_zero fmt64 (k + 3) neg 0 0
      rw [bind_eq (Unpack32 hlt), unp_of hm 1 hc (by decide) (by decide), if_pos (by rfl), bind_eq hz]
      cases neg <;> rfl
    · unfold bits_Narrow.f
      have hz : bits_Pack.f (k + 3) neg 1 0 0 32 = some (((if neg then 2 ^ 31 else 0 : Nat) : Int), none) := Pack_zero fmt32 (k + 3) neg 0 0
      rw [bind_eq (Unpack64 h64), unp_of (by decide) 1 c64 (by decide) (by decide), if_pos (by rfl), bind_eq hz, if_pos (by rfl)]
      cases neg <;> rfl
  · obtain ⟨n1, n2, n3, n4, n5, n6⟩ := parts_norm fmt32 hc
    have n7 : expOf 23 (-149) m ≤ 200 := by
      obtain ⟨_, hI⟩ := cls_two hc
      unfold expOf
      split <;> omega
    generalize hMM : mantOf 23 m = M at *
    generalize hXX : expOf 23 (-149) m = X at *
    obtain ⟨o, n, rfl, hz, hn64⟩ := odd_part n1 (by omega)
    obtain ⟨u, hr, hp0, hu⟩ := wide_rep (o := o) (n := n) (X := X) n2 n3 n7
    have hr1 := hr
    obtain ⟨r1, r2, r3⟩ := hr1
    obtain ⟨q, hq, hq63⟩ := packv_nat fmt64 r1 r2 hp0
    have hpos : 0 < (2 * o + 1) * 2 ^ u := Nat.mul_pos (by omega) (Nat.two_pow_pos u)
    obtain ⟨v1, v2, v3, v4⟩ := unp_packv fmt64 hpos r1 r2 r3 hq
    have h64 := (sgn_mod (S := 63) neg hq63).2.2
    refine ⟨sgn 63 neg q, ?_, ?_⟩
    · unfold bits_Widen.f
      have hP : bits_Pack.f (k + 3) neg 2 (((2 * o + 1) * 2 ^ n : Nat) : Int) X 64 = some ((signv 63 neg (packv 52 11 (-1074) ((2 * o + 1) * 2 ^ u) (X + n - u))).1, errv (signv 63 neg (packv 52 11 (-1074) ((2 * o + 1) * 2 ^ u) (X + n - u))).2) := Pack_rep fmt64 (by omega) hz hn64 (by omega) (by omega) hr neg (k + 1)
      rw [hq, signv_nat] at hP
      rw [bind_eq (Unpack32 hlt), unp_fine hm hc, if_pos (by rfl), hMM, hXX, bind_eq hP]
      rfl
    · unfold bits_Narrow.f
      have hm64 : (2 * o + 1) * 2 ^ u < 18446744073709551616 := by omega
      have hP : bits_Pack.f (k + 3) neg 2 (((2 * o + 1) * 2 ^ u : Nat) : Int) (X + n - u) 32 = some ((signv 31 neg (packv 23 8 (-149) ((2 * o + 1) * 2 ^ n) (X + n - u + u - n))).1, errv (signv 31 neg (packv 23 8 (-149) ((2 * o + 1) * 2 ^ n) (X + n - u + u - n))).2) := Pack_rep fmt32 hm64 (ctz_mul hm64) (by omega) (by omega) (by omega) ⟨n2, by omega, by omega⟩ neg (k + 1)
      rw [show X + (n : Int) - (u : Int) + (u : Int) - (n : Int) = X by omega, n6, signv_nat] at hP
      rw [bind_eq (Unpack64 h64), unp_fine hq63 v1, if_pos (by rfl), v2, v3, bind_eq hP, if_pos (by rfl)]
      rfl
  · obtain rfl := cls_three hc
    have c64 : cls 9218868437227405312 9218868437227405312 = 3 := by decide
    have h64 := (sgn_mod (S := 63) (m := 9218868437227405312) neg (by decide)).2.2
    refine ⟨sgn 63 neg 9218868437227405312, ?_, ?_⟩
    · unfold bits_Widen.f
      have hz : bits_Pack.f (k + 3) neg 3 0 0 64 = some (((if neg then 9218868437227405312 + 2 ^ 63 else 9218868437227405312 : Nat) : Int), none) := Pack_inf fmt64 (k + 3) neg 0 0
      rw [bind_eq (Unpack32 hlt), unp_of hm 3 hc (by decide) (by decide), if_pos (by rfl), bind_eq hz]
      cases neg <;> rfl
    · unfold bits_Narrow.f
      have hz : bits_Pack.f (k + 3) neg 3 0 0 32 = some (((if neg then 2139095040 + 2 ^ 31 else 2139095040 : Nat) : Int), none) := Pack_inf fmt32 (k + 3) neg 0 0
      rw [bind_eq (Unpack64 h64), unp_of (by decide) 3 c64 (by decide) (by decide), if_pos (by rfl), bind_eq hz, if_pos (by rfl)]
      cases neg <;> rfl
  · exact absurd hc h4
end Go.Proofs.YtdddkkojgepnmaaDoor.XcB
