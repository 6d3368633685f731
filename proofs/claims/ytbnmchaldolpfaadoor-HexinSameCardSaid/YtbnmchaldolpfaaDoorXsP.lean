
/- Packing of fine floats, whole: the program's Pack and the reference's come to the same. -/
import Derived.Test.YtbnmchaldolpfaaDoorXsR
import Derived.Test.YtbnmchaldolpfaaDoorXsx3
namespace Go.Proofs.YtbnmchaldolpfaaDoor.XsB
open Go.RowKit Go.Proofs.YtbnmchaldolpfaaDoor.Xs Go.Proofs.YtbnmchaldolpfaaDoor.A Go.Proofs.YtbnmchaldolpfaaDoorW.PrintWords Go.Proofs.YtbnmchaldolpfaaDoorW.PrintLast Go.Proofs.YtbnmchaldolpfaaDoorW.PrintMore
set_option linter.unusedSimpArgs false
set_option linter.unusedVariables false

def errv (c : Int) : Option Int := if c = 0 then none else some c
theorem packv_err (F E : Nat) (L : Int) (M : Nat) (X : Int) : (packv F E L M X).2 = 0 ∨ packv F E L M X = (0, 4) := by
  unfold packv
  by_cases h1 : M < 2 ^ F
  · rw [if_pos h1]; exact .inl rfl
  · rw [if_neg h1]
    by_cases h2 : X - L + 1 ≥ 2 ^ E - 1
    · rw [if_pos h2]; exact .inr rfl
    · rw [if_neg h2]; exact .inl rfl
theorem packv_nat {size F E S : Nat} {L : Int} {I : Nat} (h : IsFmt size F E S L I) {M : Nat} {X : Int} (hM : M < 2 ^ (F + 1)) (hX : L ≤ X) (h0 : (packv F E L M X).2 = 0) : ∃ q : Nat, packv F E L M X = ((q : Int), 0) ∧ q < 2 ^ S := by
  obtain ⟨hF0, hF, hS, hFS, hL, _, hF23⟩ := fmt_small h
  unfold packv at h0 ⊢
  by_cases h1 : M < 2 ^ F
  · rw [if_pos h1]
    exact ⟨M, rfl, Nat.lt_of_lt_of_le h1 (Nat.pow_le_pow_right (by decide) (by omega))⟩
  · rw [if_neg h1] at h0 ⊢
    by_cases h2 : X - L + 1 ≥ 2 ^ E - 1
    · rw [if_pos h2] at h0; exact absurd h0 (by decide)
    · rw [if_neg h2]
      exact ⟨_, rfl, packv_lt h hM hX h2⟩
theorem Pack_rep {size F E S : Nat} {L : Int} {I : Nat} (h : IsFmt size F E S L I) {o n u : Nat} {e : Int} (hm : (2 * o + 1) * 2 ^ n < 18446744073709551616) (hn : Lib.ctz 64 ((2 * o + 1) * 2 ^ n) = n) (hn64 : n < 64)
    (he0 : -5000 ≤ e) (he1 : e ≤ 5000) (hr : Rep F L (e + n) (2 * o + 1) u) (neg : Bool) (k : Nat) :
    bits_Pack.f (k + 2) neg 2 (((2 * o + 1) * 2 ^ n : Nat) : Int) e size = some ((signv S neg (packv F E L ((2 * o + 1) * 2 ^ u) (e + n - u))).1, errv (signv S neg (packv F E L ((2 * o + 1) * 2 ^ u) (e + n - u))).2) := by
  obtain ⟨hF0, hF, hS, hFS, hL, _, hF23⟩ := fmt_small h
  have hpos : 0 < (2 * o + 1) * 2 ^ n := Nat.mul_pos (by omega) (Nat.two_pow_pos n)
  unfold bits_Pack.f
  rw [bind_eq (formatOf_ok h), if_pos (by rfl), if_neg (by decide), if_neg (by decide), if_neg (by decide), if_pos (by rfl), if_neg (by omega), bind_eq (fine_ok h hm hn hn64 he0 he1 hr k)]
  obtain ⟨r1, r2, r3⟩ := hr
  generalize hp : packv F E L ((2 * o + 1) * 2 ^ u) (e + n - u) = p
  rcases packv_err F E L ((2 * o + 1) * 2 ^ u) (e + n - u) with h0 | h0
  · obtain ⟨q, hq, hqS⟩ := packv_nat h r1 (by omega) h0
    rw [hp] at hq
    subst hq
    have hS63 : 2 ^ S ≤ 2 ^ 63 := Nat.pow_le_pow_right (by decide) (by omega)
    have hor := or_disj' 1 q S hqS (by omega)
    rw [Nat.one_mul] at hor
    rw [if_pos (by rfl), bind_eq (sign_ok h)]
    unfold signv errv
    cases neg
    · rfl
    · rw [if_pos rfl, if_pos rfl, if_pos rfl, hor]
      simp only [if_true]
      rw [show ((2 ^ S + q : Nat) : Int) = (q : Int) + 2 ^ S by rw [Int.natCast_add, Int.natCast_pow]; exact Int.add_comm _ _]
  · rw [hp] at h0
    subst h0
    rw [if_neg (by simp)]
    rfl
theorem Pack_none {size F E S : Nat} {L : Int} {I : Nat} (h : IsFmt size F E S L I) {o n : Nat} {e : Int} (hm : (2 * o + 1) * 2 ^ n < 18446744073709551616) (hn : Lib.ctz 64 ((2 * o + 1) * 2 ^ n) = n) (hn64 : n < 64)
    (he0 : -5000 ≤ e) (he1 : e ≤ 5000) (hr : 2 ^ (F + 1) ≤ 2 * o + 1 ∨ e + n < L) (neg : Bool) (k : Nat) :
    bits_Pack.f (k + 2) neg 2 (((2 * o + 1) * 2 ^ n : Nat) : Int) e size = some (0, some 4) := by
  have hpos : 0 < (2 * o + 1) * 2 ^ n := Nat.mul_pos (by omega) (Nat.two_pow_pos n)
  unfold bits_Pack.f
  rw [bind_eq (formatOf_ok h), if_pos (by rfl), if_neg (by decide), if_neg (by decide), if_neg (by decide), if_pos (by rfl), if_neg (by omega), bind_eq (fine_none h hm hn hn64 he0 he1 hr k), if_neg (by simp)]
  rfl
theorem Pack_far {size F E S : Nat} {L : Int} {I : Nat} (h : IsFmt size F E S L I) {m : Nat} {e : Int} (hm0 : 0 < m) (hm : m < 18446744073709551616) (he : e < -5000 ∨ 5000 < e) (neg : Bool) (k : Nat) :
    bits_Pack.f (k + 1) neg 2 (m : Int) e size = some (0, some 4) := by
  unfold bits_Pack.f
  rw [bind_eq (formatOf_ok h), if_pos (by rfl), if_neg (by decide), if_neg (by decide), if_neg (by decide), if_pos (by rfl), if_neg (by omega), bind_eq (fine_far hm he k), if_neg (by simp)]
  rfl
theorem odd_part {m : Nat} (h0 : 0 < m) (h : m < 18446744073709551616) : ∃ o n, m = (2 * o + 1) * 2 ^ n ∧ Lib.ctz 64 ((2 * o + 1) * 2 ^ n) = n ∧ n < 64 := by
  obtain ⟨o, h1, h2⟩ := ctz_spec h0 h
  exact ⟨o, Lib.ctz 64 m, h1, by rw [← h1], h2⟩
theorem rep_or {F : Nat} {L t : Int} {o : Nat} (hF : F < 63) : (∃ u, Rep F L t (2 * o + 1) u) ∨ (2 ^ (F + 1) ≤ 2 * o + 1 ∨ t < L) := by
  by_cases h1 : 2 * o + 1 < 2 ^ (F + 1)
  · by_cases h2 : L ≤ t
    · exact .inl ⟨_, (bitLen_rep (by omega) h1 h2 hF).2⟩
    · exact .inr (.inr (by omega))
  · exact .inr (.inl (by omega))
end Go.Proofs.YtbnmchaldolpfaaDoor.XsB
