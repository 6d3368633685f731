
/- Rounding to the nearest, half to even: what is plain of it (no program in sight): it rises, twice a number with one less in the exponent is rounded alike. -/
import Derived.Test.YtbnmchaldolpfaaDoorA
namespace Go.Proofs.YtbnmchaldolpfaaDoor.Q
open Go.Proofs.YtbnmchaldolpfaaDoor.A
set_option linter.unusedVariables false
/-- m by two to the c, to the nearest, half to even. -/
def rhe (m c : Nat) : Nat := if 2 ^ c < 2 * (m % 2 ^ c) ∨ (2 * (m % 2 ^ c) = 2 ^ c ∧ m / 2 ^ c % 2 = 1) then m / 2 ^ c + 1 else m / 2 ^ c
theorem rhe_zero (m : Nat) : rhe m 0 = m := by
  unfold rhe
  rw [Nat.pow_zero, Nat.mod_one, Nat.div_one, if_neg (by omega)]
theorem rhe_ge (m c : Nat) : m / 2 ^ c ≤ rhe m c := by unfold rhe; split <;> omega
theorem rhe_le (m c : Nat) : rhe m c ≤ m / 2 ^ c + 1 := by unfold rhe; split <;> omega
theorem rhe_mono {m m' : Nat} (c : Nat) (h : m ≤ m') : rhe m c ≤ rhe m' c := by
  have hp : 0 < 2 ^ c := Nat.two_pow_pos c
  have hd : m / 2 ^ c ≤ m' / 2 ^ c := Nat.div_le_div_right h
  have e1 := Nat.div_add_mod m (2 ^ c)
  have e2 := Nat.div_add_mod m' (2 ^ c)
  rcases Nat.lt_or_ge (m / 2 ^ c) (m' / 2 ^ c) with hlt | hge
  · have := rhe_le m c; have := rhe_ge m' c; omega
  · have heq : m / 2 ^ c = m' / 2 ^ c := by omega
    rw [heq] at e1
    unfold rhe
    rw [heq]
    by_cases h1 : 2 ^ c < 2 * (m % 2 ^ c) ∨ (2 * (m % 2 ^ c) = 2 ^ c ∧ m' / 2 ^ c % 2 = 1)
    · rw [if_pos h1, if_pos (by omega)]; exact Nat.le_refl _
    · rw [if_neg h1]; split <;> omega
theorem two_mul_mod (m c : Nat) : 2 * m % 2 ^ (c + 1) = 2 * (m % 2 ^ c) := by
  rw [Nat.pow_succ, Nat.mul_comm (2 ^ c) 2, Nat.mul_mod_mul_left]
theorem two_mul_div (m c : Nat) : 2 * m / 2 ^ (c + 1) = m / 2 ^ c := by
  rw [Nat.pow_succ, Nat.mul_comm (2 ^ c) 2, Nat.mul_div_mul_left _ _ (by decide)]
theorem rhe_double (m c : Nat) : rhe (2 * m) (c + 1) = rhe m c := by
  unfold rhe
  rw [two_mul_mod, two_mul_div]
  have hs : 2 ^ (c + 1) = 2 * 2 ^ c := by rw [Nat.pow_succ, Nat.mul_comm]
  by_cases h : 2 ^ c < 2 * (m % 2 ^ c) ∨ (2 * (m % 2 ^ c) = 2 ^ c ∧ m / 2 ^ c % 2 = 1)
  · rw [if_pos h, if_pos (by omega)]
  · rw [if_neg h, if_neg (by omega)]
theorem rhe_small {m c : Nat} (h : 2 * m < 2 ^ c) : rhe m c = 0 := by
  unfold rhe
  rw [Nat.mod_eq_of_lt (by omega), Nat.div_eq_of_lt (by omega), if_neg (by omega)]
/-- m times two to the e on the grid of two to the last. -/
def gridv (m : Nat) (e last : Int) : Nat := if last ≤ e then m * 2 ^ (e - last).toNat else rhe m (last - e).toNat
theorem gridv_mono {m m' : Nat} (h : m ≤ m') (e last : Int) : gridv m e last ≤ gridv m' e last := by
  unfold gridv
  split
  · exact Nat.mul_le_mul_right _ h
  · exact rhe_mono _ h
theorem gridv_double (m : Nat) (e last : Int) : gridv (2 * m) (e - 1) last = gridv m e last := by
  unfold gridv
  by_cases h1 : last ≤ e - 1
  · rw [if_pos h1, if_pos (by omega), show (e - last).toNat = (e - 1 - last).toNat + 1 by omega, Nat.pow_succ]
    rw [Nat.mul_comm 2 m, Nat.mul_assoc, Nat.mul_comm 2]
  · rw [if_neg h1, show (last - (e - 1)).toNat = (last - e + 1).toNat by omega]
    by_cases h2 : last ≤ e
    · have : last = e := by omega
      subst this
      rw [if_pos (Int.le_refl _), show (last - last + 1).toNat = 0 + 1 by omega, rhe_double, rhe_zero, show (last - last).toNat = 0 by omega, Nat.pow_zero, Nat.mul_one]
    · rw [if_neg h2, show (last - e + 1).toNat = (last - e).toNat + 1 by omega, rhe_double]
/-- The exponent of the last bit of a format with F bits behind the first one, and L the least. -/
def lastOf (F : Nat) (L : Int) (m : Nat) (e : Int) : Int := max ((Lib.bitLen m : Int) - 1 + e - F) L
/-- The bits without a sign, if there were no greatest. -/
def bitsv (F : Nat) (L : Int) (m : Nat) (e : Int) : Nat := (lastOf F L m e - L).toNat * 2 ^ F + gridv m e (lastOf F L m e)
theorem bitLen_double {m : Nat} (h0 : 0 < m) (h : 2 * m < 18446744073709551616) : Lib.bitLen (2 * m) = Lib.bitLen m + 1 := by
  have := Lib.bitLen_half (2 * m) (by omega) (by omega)
  rw [show 2 * m / 2 = m by omega] at this
  omega
theorem bitLen_mono {m m' : Nat} (h : m ≤ m') (h2 : m' < 18446744073709551616) : Lib.bitLen m ≤ Lib.bitLen m' := by
  rcases Nat.eq_zero_or_pos m with rfl | h0
  · rw [bitLen_zero]; omega
  · obtain ⟨b0, b1, b2⟩ := blen_spec _ m' rfl (by omega) h2
    exact Lib.bitLen_le m (Lib.bitLen m') (bitLen_le64 m' h2) (by omega)
theorem lastOf_double {F : Nat} {L : Int} {m : Nat} (h0 : 0 < m) (h : 2 * m < 18446744073709551616) (e : Int) : lastOf F L (2 * m) (e - 1) = lastOf F L m e := by
  unfold lastOf
  rw [bitLen_double h0 h, show ((Lib.bitLen m + 1 : Nat) : Int) - 1 + (e - 1) - F = (Lib.bitLen m : Int) - 1 + e - F by omega]
theorem bitsv_double {F : Nat} {L : Int} {m : Nat} (h0 : 0 < m) (h : 2 * m < 18446744073709551616) (e : Int) : bitsv F L (2 * m) (e - 1) = bitsv F L m e := by
  unfold bitsv
  rw [lastOf_double h0 h, gridv_double]
/-- Every number lies on its grid below two to the F + 1 (or is that), and from two to the F on, if the grid is not the finest. -/
theorem gridv_bounds {F : Nat} {L : Int} {m : Nat} (h0 : 0 < m) (h : m < 18446744073709551616) (e : Int) :
    gridv m e (lastOf F L m e) ≤ 2 ^ (F + 1) ∧ (2 ^ F ≤ gridv m e (lastOf F L m e) ∨ lastOf F L m e = L) ∧ (lastOf F L m e ≤ e → gridv m e (lastOf F L m e) < 2 ^ (F + 1)) := by
  obtain ⟨b0, b1, b2⟩ := blen_spec _ m rfl h0 h
  unfold lastOf
  generalize Lib.bitLen m = b at *
  generalize hl : max ((b : Int) - 1 + e - F) L = last
  unfold gridv
  by_cases hc : last ≤ e
  · rw [if_pos hc]
    have hb : (b : Int) - 1 + (e - last) ≤ F := by omega
    have hd : b + (e - last).toNat ≤ F + 1 := by omega
    have h1 : m * 2 ^ (e - last).toNat < 2 ^ (F + 1) := by
      have h2 : m * 2 ^ (e - last).toNat < 2 ^ b * 2 ^ (e - last).toNat := Nat.mul_lt_mul_of_pos_right b2 (Nat.two_pow_pos _)
      rw [← Nat.pow_add] at h2
      exact Nat.lt_of_lt_of_le h2 (Nat.pow_le_pow_right (by decide) hd)
    refine ⟨Nat.le_of_lt h1, ?_, fun _ => h1⟩
    by_cases hL : last = L
    · exact .inr hL
    · left
      have h2 : 2 ^ (b - 1) * 2 ^ (e - last).toNat ≤ m * 2 ^ (e - last).toNat := Nat.mul_le_mul_right _ b1
      rw [← Nat.pow_add, show b - 1 + (e - last).toNat = F by omega] at h2
      exact h2
  · rw [if_neg hc]
    generalize hcut : (last - e).toNat = c
    have hc1 : b ≤ F + 1 + c := by omega
    have hp : 0 < 2 ^ c := Nat.two_pow_pos c
    have h1 : m / 2 ^ c < 2 ^ (F + 1) := by
      rw [Nat.div_lt_iff_lt_mul hp, ← Nat.pow_add]
      exact Nat.lt_of_lt_of_le b2 (Nat.pow_le_pow_right (by decide) hc1)
    refine ⟨by have := rhe_le m c; omega, ?_, fun h => absurd h hc⟩
    by_cases hL : last = L
    · exact .inr hL
    · left
      refine Nat.le_trans ?_ (rhe_ge m c)
      rw [Nat.le_div_iff_mul_le hp, ← Nat.pow_add, show F + c = b - 1 by omega]
      exact b1
theorem bitsv_mono {F : Nat} {L : Int} {m m' : Nat} (h0 : 0 < m) (h : m ≤ m') (h2 : m' < 18446744073709551616) (e : Int) : bitsv F L m e ≤ bitsv F L m' e := by
  have hbl := bitLen_mono h h2
  have g := gridv_bounds (F := F) (L := L) h0 (by omega : m < 18446744073709551616) e
  have g' := gridv_bounds (F := F) (L := L) (by omega : 0 < m') h2 e
  have hll : lastOf F L m e ≤ lastOf F L m' e := by unfold lastOf; omega
  have hL : L ≤ lastOf F L m e := by unfold lastOf; omega
  unfold bitsv
  rcases Int.lt_or_eq_of_le hll with hlt | heq
  · generalize lastOf F L m e = l at *
    generalize lastOf F L m' e = l' at *
    generalize gridv m e l = x at *
    generalize gridv m' e l' = y at *
    have hy : 2 ^ F ≤ y := by rcases g'.2.1 with h | h <;> omega
    have e1 : 2 ^ (F + 1) = 2 ^ F + 2 ^ F := by rw [Nat.pow_succ]; omega
    have h3 : (l - L).toNat + 1 ≤ (l' - L).toNat := by omega
    have h4 : ((l - L).toNat + 1) * 2 ^ F ≤ (l' - L).toNat * 2 ^ F := Nat.mul_le_mul_right _ h3
    rw [Nat.add_mul, Nat.one_mul] at h4
    have := g.1
    omega
  · rw [heq]
    have := gridv_mono h e (lastOf F L m' e)
    omega
end Go.Proofs.YtbnmchaldolpfaaDoor.Q
