
/- What was taken apart is put together as it was. -/
import Derived.Test.YtbnmchaldolpfaaDoorXsP
import Derived.Test.YtbnmchaldolpfaaDoorXsx3
namespace Go.Proofs.YtbnmchaldolpfaaDoor.XsB
open Go.RowKit Go.Proofs.YtbnmchaldolpfaaDoor.Xs Go.Proofs.YtbnmchaldolpfaaDoor.A Go.Proofs.YtbnmchaldolpfaaDoorW.PrintWords Go.Proofs.YtbnmchaldolpfaaDoorW.PrintLast Go.Proofs.YtbnmchaldolpfaaDoorW.PrintMore
set_option linter.unusedSimpArgs false
set_option linter.unusedVariables false
theorem cls_two {I m : Nat} (h : cls I m = 2) : 0 < m ∧ m < I := by
  unfold cls at h
  by_cases h1 : m = 0
  · rw [if_pos h1] at h; exact absurd h (by decide)
  · rw [if_neg h1] at h
    by_cases h2 : m < I
    · exact ⟨by omega, h2⟩
    · rw [if_neg h2] at h
      by_cases h3 : m = I
      · rw [if_pos h3] at h; exact absurd h (by decide)
      · rw [if_neg h3] at h; exact absurd h (by decide)
theorem fmt_I2 {size F E S : Nat} {L : Int} {I : Nat} (h : IsFmt size F E S L I) : ((I : Nat) : Int) = (2 ^ E - 1) * 2 ^ F ∧ I / 2 ^ F * 2 ^ F = I := by
  rcases h with ⟨rfl, rfl, rfl, rfl, rfl, rfl⟩ | ⟨rfl, rfl, rfl, rfl, rfl, rfl⟩ <;> decide +kernel
/-- A finite magnitude's parts are in the normal form, and pack to it. -/
theorem parts_norm {size F E S : Nat} {L : Int} {I : Nat} (h : IsFmt size F E S L I) {m : Nat} (hc : cls I m = 2) :
    0 < mantOf F m ∧ mantOf F m < 2 ^ (F + 1) ∧ L ≤ expOf F L m ∧ (2 ^ F ≤ mantOf F m ∨ expOf F L m = L) ∧ expOf F L m ≤ 2000 ∧ packv F E L (mantOf F m) (expOf F L m) = ((m : Int), 0) := by
  obtain ⟨hF0, hF, hS, hFS, hL, _, hF23⟩ := fmt_small h
  obtain ⟨h0, hI⟩ := cls_two hc
  have hp : 0 < 2 ^ F := Nat.two_pow_pos F
  have e2 : 2 ^ (F + 1) = 2 ^ F * 2 := Nat.pow_succ ..
  have hlt : m % 2 ^ F < 2 ^ F := Nat.mod_lt _ hp
  have hdm := Nat.div_add_mod m (2 ^ F)
  have hq : ((m / 2 ^ F : Nat) : Int) < 2 ^ E - 1 := by
    rcases h with ⟨rfl, rfl, rfl, rfl, rfl, rfl⟩ | ⟨rfl, rfl, rfl, rfl, rfl, rfl⟩ <;> omega
  have hqs : m / 2 ^ F < 2047 := by rcases fmt_E h with ⟨h1, _⟩ | ⟨h1, _⟩ <;> omega
  unfold mantOf expOf
  generalize m / 2 ^ F = q at *
  generalize m % 2 ^ F = r at *
  by_cases hz : q = 0
  · subst hz
    rw [if_pos rfl, if_pos rfl]
    refine ⟨by omega, by omega, by omega, .inr rfl, by omega, ?_⟩
    unfold packv
    rw [if_pos hlt]
    have : r = m := by omega
    rw [this]
  · rw [if_neg hz, if_neg hz]
    refine ⟨by omega, by omega, by omega, .inl (by omega), by omega, ?_⟩
    unfold packv
    rw [if_neg (by omega), if_neg (by omega)]
    have e3 : (L + (q : Int) - 1 - L).toNat = q - 1 := by omega
    rw [e3]
    have e4 : (q - 1) * 2 ^ F + (r + 2 ^ F) = m := by
      obtain ⟨p, rfl⟩ : ∃ p, q = p + 1 := ⟨q - 1, by omega⟩
      rw [Nat.mul_add, Nat.mul_one] at hdm
      rw [Nat.add_sub_cancel, Nat.mul_comm]
      omega
    rw [e4]
theorem Pack_norm {size F E S : Nat} {L : Int} {I : Nat} (h : IsFmt size F E S L I) {M : Nat} {X : Int} (h0 : 0 < M) (hM : M < 2 ^ (F + 1)) (hX : L ≤ X) (hn : 2 ^ F ≤ M ∨ X = L) (hX2 : X ≤ 2000) (neg : Bool) (k : Nat) :
    bits_Pack.f (k + 2) neg 2 (M : Int) X size = some ((signv S neg (packv F E L M X)).1, errv (signv S neg (packv F E L M X)).2) := by
  obtain ⟨hF0, hF, hS, hFS, hL, _, hF23⟩ := fmt_small h
  have h64 : 2 ^ (F + 1) ≤ 18446744073709551616 := pow_le64 (by omega)
  obtain ⟨o, n, rfl, hz, hn64⟩ := odd_part h0 (by omega)
  have := Pack_rep h (by omega) hz hn64 (e := X) (by omega) (by omega) (u := n) ⟨hM, by omega, by omega⟩ neg k
  rw [show X + (n : Int) - (n : Int) = X by omega] at this
  exact this
/-- A float that is taken apart and put together is the same. -/
theorem Pack_unp {size F E S : Nat} {L : Int} {I : Nat} (h : IsFmt size F E S L I) {a : Nat} (ha : a < 2 ^ (S + 1)) (hc : cls I (a % 2 ^ S) = 2) (k : Nat) :
    bits_Pack.f (k + 2) (decide (2 ^ S ≤ a)) 2 (mantOf F (a % 2 ^ S) : Int) (expOf F L (a % 2 ^ S)) size = some ((a : Int), none) := by
  obtain ⟨n1, n2, n3, n4, n5, n6⟩ := parts_norm h hc
  rw [Pack_norm h n1 n2 n3 n4 n5, n6]
  have hs : 2 ^ (S + 1) = 2 ^ S * 2 := Nat.pow_succ ..
  unfold signv errv
  by_cases hn : 2 ^ S ≤ a
  · have e : a % 2 ^ S = a - 2 ^ S := by rw [Nat.mod_eq_sub_mod hn, Nat.mod_eq_of_lt (by omega)]
    rw [decide_eq_true hn, e, if_pos rfl, if_pos rfl, if_pos rfl]
    simp only
    rw [show ((a - 2 ^ S : Nat) : Int) + 2 ^ S = (a : Int) by rw [Int.natCast_sub hn, Int.natCast_pow]; exact Int.sub_add_cancel _ _]
  · rw [decide_eq_false hn, Nat.mod_eq_of_lt (by omega)]
    rfl
end Go.Proofs.YtbnmchaldolpfaaDoor.XsB
