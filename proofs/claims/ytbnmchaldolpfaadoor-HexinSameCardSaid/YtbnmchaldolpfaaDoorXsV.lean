
/- What was put together is taken apart as it was; a float widened and narrowed is the same. -/
import Derived.Test.YtbnmchaldolpfaaDoorXsK

namespace Go.Proofs.YtbnmchaldolpfaaDoor.XsB
open Go.RowKit Go.Proofs.YtbnmchaldolpfaaDoor.Xs Go.Proofs.YtbnmchaldolpfaaDoor.A Go.Proofs.YtbnmchaldolpfaaDoorW.PrintWords Go.Proofs.YtbnmchaldolpfaaDoorW.PrintLast Go.Proofs.YtbnmchaldolpfaaDoorW.PrintMore
set_option linter.unusedSimpArgs false
set_option linter.unusedVariables false
theorem odd_unique {o m : Nat} : ∀ {u c : Nat}, (2 * o + 1) * 2 ^ u = (2 * m + 1) * 2 ^ c → u = c
  | 0, 0, _ => rfl
  | 0, c + 1, h => by rw [Nat.pow_succ, ← Nat.mul_assoc, Nat.pow_zero] at h; omega
  | u + 1, 0, h => by rw [Nat.pow_succ, ← Nat.mul_assoc, Nat.pow_zero] at h; omega
  | u + 1, c + 1, h => by
    rw [Nat.pow_succ, Nat.pow_succ, ← Nat.mul_assoc, ← Nat.mul_assoc] at h
    have h2 : (2 * o + 1) * 2 ^ u = (2 * m + 1) * 2 ^ c := by omega
    rw [odd_unique h2]
theorem ctz_mul {o u : Nat} (hm : (2 * o + 1) * 2 ^ u < 18446744073709551616) : Lib.ctz 64 ((2 * o + 1) * 2 ^ u) = u := by
  have hp : 0 < (2 * o + 1) * 2 ^ u := Nat.mul_pos (by omega) (Nat.two_pow_pos u)
  obtain ⟨m, h1, _⟩ := ctz_spec hp hm
  exact (odd_unique h1).symm
theorem unp_packv {size F E S : Nat} {L : Int} {I : Nat} (h : IsFmt size F E S L I) {M q : Nat} {X : Int} (h0 : 0 < M) (hM : M < 2 ^ (F + 1)) (hX : L ≤ X) (hn : 2 ^ F ≤ M ∨ X = L) (hp : packv F E L M X = ((q : Int), 0)) :
    cls I q = 2 ∧ mantOf F q = M ∧ expOf F L q = X ∧ q < 2 ^ S := by
  obtain ⟨hF0, hF, hS, hFS, hL, _, hF23⟩ := fmt_small h
  have e2 : 2 ^ (F + 1) = 2 ^ F * 2 := Nat.pow_succ ..
  have hpF : 0 < 2 ^ F := Nat.two_pow_pos F
  have hqS : q < 2 ^ S := by
    obtain ⟨q2, hq2, hlt⟩ := packv_nat h hM hX (by rw [hp])
    rw [hp] at hq2
    have : (q : Int) = q2 := congrArg Prod.fst hq2
    omega
  have hcls : ∀ x : Nat, 0 < x → x < I → cls I x = 2 := fun x hx hxI => by unfold cls; rw [if_neg (by omega), if_pos hxI]
  unfold packv at hp
  by_cases hc : M < 2 ^ F
  · rw [if_pos hc] at hp
    have hq : (M : Int) = q := congrArg Prod.fst hp
    obtain rfl : M = q := by omega
    have hFI : 2 ^ F ≤ I := by rcases h with ⟨rfl, rfl, rfl, rfl, rfl, rfl⟩ | ⟨rfl, rfl, rfl, rfl, rfl, rfl⟩ <;> decide
    refine ⟨hcls M h0 (by omega), ?_, ?_, hqS⟩
    · unfold mantOf; rw [Nat.div_eq_of_lt hc, if_pos rfl, Nat.mod_eq_of_lt hc]
    · unfold expOf; rw [Nat.div_eq_of_lt hc, if_pos rfl]; omega
  · rw [if_neg hc] at hp
    by_cases hf : X - L + 1 ≥ 2 ^ E - 1
    · rw [if_pos hf] at hp; have hh : (4 : Int) = 0 := congrArg Prod.snd hp
      omega
    · rw [if_neg hf] at hp
      have hq : (((X - L).toNat * 2 ^ F + M : Nat) : Int) = q := congrArg Prod.fst hp
      obtain ⟨d, hd⟩ : ∃ d : Nat, X - L = d := ⟨(X - L).toNat, by omega⟩
      rw [hd, Int.toNat_natCast] at hq
      obtain ⟨r, rfl⟩ : ∃ r, M = 2 ^ F + r := ⟨M - 2 ^ F, by omega⟩
      have hqe : q = 2 ^ F * (d + 1) + r := by
        have : 2 ^ F * (d + 1) = d * 2 ^ F + 2 ^ F := by rw [Nat.mul_add, Nat.mul_one, Nat.mul_comm]
        omega
      have hr : r < 2 ^ F := by omega
      have hdiv : q / 2 ^ F = d + 1 := by rw [hqe, Nat.mul_add_div hpF, Nat.div_eq_of_lt hr]
      have hmod : q % 2 ^ F = r := by rw [hqe, Nat.mul_add_mod, Nat.mod_eq_of_lt hr]
      have hqI : q < I := by
        rcases h with ⟨rfl, rfl, rfl, rfl, rfl, rfl⟩ | ⟨rfl, rfl, rfl, rfl, rfl, rfl⟩ <;> omega
      refine ⟨hcls q (by omega) hqI, ?_, ?_, hqS⟩
      · unfold mantOf; rw [hdiv, if_neg (by omega), hmod]; omega
      · unfold expOf; rw [hdiv, if_neg (by omega)]; omega
/-- Every finite float of 32 bits has a normal form of 64. -/
theorem wide_rep {o n : Nat} {X : Int} (hM : (2 * o + 1) * 2 ^ n < 2 ^ 24) (hX : -149 ≤ X) (hX2 : X ≤ 200) : ∃ u, Rep 52 (-1074) (X + n) (2 * o + 1) u ∧ (packv 52 11 (-1074) ((2 * o + 1) * 2 ^ u) (X + n - u)).2 = 0 ∧ u ≤ 53 := by
  have hO : 2 * o + 1 ≤ (2 * o + 1) * 2 ^ n := Nat.le_mul_of_pos_right _ (Nat.two_pow_pos n)
  have hn : n < 24 := by
    rcases Nat.lt_or_ge n 24 with hc | hc
    · exact hc
    · have h1 : 2 ^ 24 ≤ 2 ^ n := Nat.pow_le_pow_right (by decide) hc
      have h2 : 2 ^ n ≤ (2 * o + 1) * 2 ^ n := Nat.le_mul_of_pos_left _ (by omega)
      omega
  obtain ⟨hb, hr⟩ := bitLen_rep (F := 52) (L := -1074) (t := X + n) (o := 2 * o + 1) (by omega) (by omega) (by omega) (by omega)
  generalize hu : min (52 + 1 - Lib.bitLen (2 * o + 1)) (X + n - -1074).toNat = u at *
  have hu53 : u ≤ 53 := by omega
  refine ⟨u, hr, ?_, hu53⟩
  unfold packv
  by_cases hc : (2 * o + 1) * 2 ^ u < 2 ^ 52
  · rw [if_pos hc]
  · rw [if_neg hc, if_neg (by omega)]
end Go.Proofs.YtbnmchaldolpfaaDoor.XsB
