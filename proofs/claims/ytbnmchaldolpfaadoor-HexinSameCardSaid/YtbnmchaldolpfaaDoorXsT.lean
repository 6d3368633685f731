
/- Packing what was rounded: the bits are those of the grid's number, or there are none. -/
import Derived.Test.YtbnmchaldolpfaaDoorXsW
import Derived.Test.YtbnmchaldolpfaaDoorQ
import Derived.Test.YtbnmchaldolpfaaDoorXsx3
namespace Go.Proofs.YtbnmchaldolpfaaDoor.XsB
open Go.RowKit Go.Proofs.YtbnmchaldolpfaaDoor.Xs Go.Proofs.YtbnmchaldolpfaaDoor.A Go.Proofs.YtbnmchaldolpfaaDoor.Q Go.Proofs.YtbnmchaldolpfaaDoorW.PrintWords Go.Proofs.YtbnmchaldolpfaaDoorW.PrintLast Go.Proofs.YtbnmchaldolpfaaDoorW.PrintMore
set_option linter.unusedSimpArgs false
set_option linter.unusedVariables false
theorem packv_bits {size F E S : Nat} {L : Int} {I : Nat} (h : IsFmt size F E S L I) {M : Nat} {X : Int} (hM : M < 2 ^ (F + 1)) (hX : L ≤ X) (hn : 2 ^ F ≤ M ∨ X = L) :
    packv F E L M X = if I ≤ (X - L).toNat * 2 ^ F + M then (0, 4) else ((((X - L).toNat * 2 ^ F + M : Nat) : Int), 0) := by
  unfold packv
  by_cases hc : M < 2 ^ F
  · have hXL : X = L := by omega
    subst hXL
    rw [if_pos hc, show (X - X).toNat = 0 by omega, Nat.zero_mul, Nat.zero_add, if_neg]
    rcases h with ⟨rfl, rfl, rfl, rfl, rfl, rfl⟩ | ⟨rfl, rfl, rfl, rfl, rfl, rfl⟩ <;> omega
  · rw [if_neg hc]
    by_cases hf : X - L + 1 ≥ 2 ^ E - 1
    · rw [if_pos hf, if_pos]
      rcases h with ⟨rfl, rfl, rfl, rfl, rfl, rfl⟩ | ⟨rfl, rfl, rfl, rfl, rfl, rfl⟩ <;> omega
    · rw [if_neg hf, if_neg]
      rcases h with ⟨rfl, rfl, rfl, rfl, rfl, rfl⟩ | ⟨rfl, rfl, rfl, rfl, rfl, rfl⟩ <;> omega
/-- What Pack answers for the bits b, if there were no greatest. -/
def outb (S I : Nat) (neg : Bool) (b : Nat) : Int × Option Int := if I ≤ b then (0, some 4) else (((sgn S neg b : Nat) : Int), none)
theorem outb_of {size F E S : Nat} {L : Int} {I : Nat} (h : IsFmt size F E S L I) {M : Nat} {X : Int} (hM : M < 2 ^ (F + 1)) (hX : L ≤ X) (hn : 2 ^ F ≤ M ∨ X = L) (neg : Bool) :
    ((signv S neg (packv F E L M X)).1, errv (signv S neg (packv F E L M X)).2) = outb S I neg ((X - L).toNat * 2 ^ F + M) := by
  rw [packv_bits h hM hX hn]
  unfold outb
  by_cases hc : I ≤ (X - L).toNat * 2 ^ F + M
  · rw [if_pos hc, if_pos hc]; rfl
  · rw [if_neg hc, if_neg hc, signv_nat]; rfl
theorem Pack_val {size F E S : Nat} {L : Int} {I : Nat} (h : IsFmt size F E S L I) {m d : Nat} {e : Int} (h0 : 0 < m) (hm : m < 18446744073709551616) (he0 : -5000 ≤ e) (he1 : e ≤ 5000)
    (hM : m * 2 ^ d < 2 ^ (F + 1)) (hX : L ≤ e - d) (hn : 2 ^ F ≤ m * 2 ^ d ∨ e - d = L) (neg : Bool) (k : Nat) :
    bits_Pack.f (k + 2) neg 2 (m : Int) e size = some (outb S I neg ((e - d - L).toNat * 2 ^ F + m * 2 ^ d)) := by
  obtain ⟨o, n, rfl, hz, hn64⟩ := odd_part h0 hm
  have hassoc : (2 * o + 1) * 2 ^ n * 2 ^ d = (2 * o + 1) * 2 ^ (n + d) := by rw [Nat.pow_add, Nat.mul_assoc]
  have hp := Pack_rep h hm hz hn64 he0 he1 (u := n + d) ⟨by rw [← hassoc]; exact hM, by omega, by rw [← hassoc]; omega⟩ neg k
  rw [hp, ← hassoc, show e + (n : Int) - ((n + d : Nat) : Int) = e - d by omega, outb_of h hM hX hn]
theorem Pack_carry {size F E S : Nat} {L : Int} {I : Nat} (h : IsFmt size F E S L I) {X : Int} (hX : L ≤ X) (hX2 : X ≤ 4900) (neg : Bool) (k : Nat) :
    bits_Pack.f (k + 2) neg 2 ((2 ^ (F + 1) : Nat) : Int) X size = some (outb S I neg ((X - L).toNat * 2 ^ F + 2 ^ (F + 1))) := by
  obtain ⟨hF0, hF, hS, hFS, hL, _, hF23⟩ := fmt_small h
  have h64 : 2 ^ (F + 1) < 18446744073709551616 := by
    have : 2 ^ (F + 1) < 2 ^ 64 := Nat.pow_lt_pow_right (by decide) (by omega)
    omega
  have e1 : (2 * 0 + 1) * 2 ^ (F + 1) = 2 ^ (F + 1) := by omega
  have e2 : (2 * 0 + 1) * 2 ^ F = 2 ^ F := by omega
  have es : 2 ^ (F + 1) = 2 ^ F * 2 := Nat.pow_succ ..
  have hp := Pack_rep h (o := 0) (n := F + 1) (by rw [e1]; exact h64) (ctz_mul (by rw [e1]; exact h64)) (by omega) (e := X) (by omega) (by omega) (u := F) ⟨by rw [e2]; have := Nat.two_pow_pos F; omega, by omega, .inl (by rw [e2]; exact Nat.le_refl _)⟩ neg k
  rw [e1, e2, show X + ((F + 1 : Nat) : Int) - (F : Int) = X + 1 by omega] at hp
  rw [hp, outb_of h (by have := Nat.two_pow_pos F; omega) (by omega) (.inl (Nat.le_refl _))]
  have e3 : (X + 1 - L).toNat * 2 ^ F + 2 ^ F = (X - L).toNat * 2 ^ F + 2 ^ (F + 1) := by
    rw [show (X + 1 - L).toNat = (X - L).toNat + 1 by omega, Nat.add_mul]; omega
  rw [e3]
theorem lastOf_ge (F : Nat) (L : Int) (m : Nat) (e : Int) : L ≤ lastOf F L m e := by unfold lastOf; omega
theorem lastOf_le {F : Nat} {L : Int} {m : Nat} {e : Int} (hm : m < 18446744073709551616) (hL : L ≤ 4700) (he : e ≤ 4600) : lastOf F L m e ≤ 4700 := by
  have := bitLen_le64 m hm
  unfold lastOf; omega
/-- What lies on its grid as it is. -/
theorem Pack_exact {size F E S : Nat} {L : Int} {I : Nat} (h : IsFmt size F E S L I) {m : Nat} {e : Int} (h0 : 0 < m) (hm : m < 18446744073709551616) (he0 : -5000 ≤ e) (he1 : e ≤ 5000) (hl : lastOf F L m e ≤ e) (neg : Bool) (k : Nat) :
    bits_Pack.f (k + 2) neg 2 (m : Int) e size = some (outb S I neg (bitsv F L m e)) := by
  obtain ⟨g1, g2, g3⟩ := gridv_bounds (F := F) (L := L) h0 hm e
  have hg : gridv m e (lastOf F L m e) = m * 2 ^ (e - lastOf F L m e).toNat := by unfold gridv; rw [if_pos hl]
  have hL := lastOf_ge F L m e
  unfold bitsv
  rw [hg] at g1 g2 g3 ⊢
  generalize lastOf F L m e = l at *
  generalize hd : (e - l).toNat = d at *
  have hp := Pack_val h h0 hm he0 he1 (d := d) (g3 hl) (by omega) (by omega) neg k
  rw [show e - (d : Int) = l by omega] at hp
  exact hp
/-- What was rounded to its grid, and is above 0. -/
theorem Pack_grid {size F E S : Nat} {L : Int} {I : Nat} (h : IsFmt size F E S L I) {m : Nat} {e : Int} (h0 : 0 < m) (hm : m < 18446744073709551616) (hg0 : 0 < gridv m e (lastOf F L m e)) (hl : lastOf F L m e ≤ 4900) (neg : Bool) (k : Nat) :
    bits_Pack.f (k + 2) neg 2 ((gridv m e (lastOf F L m e) : Nat) : Int) (lastOf F L m e) size = some (outb S I neg (bitsv F L m e)) := by
  obtain ⟨g1, g2, _⟩ := gridv_bounds (F := F) (L := L) h0 hm e
  obtain ⟨hF0, hF, hS, hFS, hLL, _, hF23⟩ := fmt_small h
  have hL := lastOf_ge F L m e
  have h64 : 2 ^ (F + 1) < 18446744073709551616 := by
    have : 2 ^ (F + 1) < 2 ^ 64 := Nat.pow_lt_pow_right (by decide) (by omega)
    omega
  unfold bitsv
  generalize lastOf F L m e = l at *
  generalize gridv m e l = g at *
  rcases Nat.lt_or_ge g (2 ^ (F + 1)) with hlt | hge
  · have hp := Pack_val h hg0 (by omega) (e := l) (by omega) (by omega) (d := 0) (by omega) (by omega) (by omega) neg k
    rw [Nat.pow_zero, Nat.mul_one, show l - ((0 : Nat) : Int) = l by omega] at hp
    exact hp
  · obtain rfl : g = 2 ^ (F + 1) := by omega
    exact Pack_carry h hL hl neg k
end Go.Proofs.YtbnmchaldolpfaaDoor.XsB
