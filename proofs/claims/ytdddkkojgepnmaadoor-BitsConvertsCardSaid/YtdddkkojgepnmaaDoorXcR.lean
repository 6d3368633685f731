
/- The reference's packing of fine floats: its two loops come to the normal form. -/
import Derived.Test.YtdddkkojgepnmaaDoorXcD
import Derived.Test.YtdddkkojgepnmaaDoorXcx8
import Derived.Test.YtdddkkojgepnmaaDoorXcx9
namespace Go.Proofs.YtdddkkojgepnmaaDoor.XcB
open Go.RowKit Go.Proofs.YtdddkkojgepnmaaDoor.Xc Go.Proofs.YtdddkkojgepnmaaDoor.A Go.Proofs.YtdddkkojgepnmaaDoorW.PrintWords Go.Proofs.YtdddkkojgepnmaaDoorW.PrintLast Go.Proofs.YtdddkkojgepnmaaDoorW.PrintMore
set_option linter.unusedSimpArgs false
set_option linter.unusedVariables false

theorem and_one {a : Nat} (ha : a < 18446744073709551616) : Go.bits .and .u64 (a : Int) 1 = ((a % 2 : Nat) : Int) := and_mask a 1 ha (by omega)
theorem rl0 {size F E S : Nat} {L : Int} {I : Nat} (h : IsFmt size F E S L I) (O : Nat) (hO : O % 2 = 1) (t : Int) (ht1 : t ≤ 10000) (b : Bool) (c1 c2 c3 : Int) (k : Nat) : ∀ v : Nat, O * 2 ^ v < 18446744073709551616 → -10000 ≤ t - v →
    ∃ w, w ≤ v ∧ numeralref11_Pack.l0 (k + v + 1) size ((O * 2 ^ v : Nat) : Int) (t - v) F b c1 c2 c3 = numeralref11_Pack.j3 (k + w) size ((O * 2 ^ w : Nat) : Int) (t - w) F b c1 c2 c3 ∧ (w = 0 ∨ O * 2 ^ w < 2 ^ (F + 1) ∧ L ≤ t - w)
  | 0, hm, hv => by
    refine ⟨0, Nat.le_refl _, ?_, .inl rfl⟩
    rw [numeralref11_Pack.l0, and_one hm, if_neg (by rw [Nat.pow_zero, Nat.mul_one, hO]; decide)]
    rfl
  | v + 1, hm, hv => by
    obtain ⟨hF0, hF, hS, hFS, hL, _, hF23⟩ := fmt_small h
    have e1 : O * 2 ^ (v + 1) = O * 2 ^ v * 2 := by rw [Nat.pow_succ, Nat.mul_assoc]
    have e2 : O * 2 ^ (v + 1) % 2 = 0 := by rw [e1]; omega
    have e3 : O * 2 ^ (v + 1) / 2 = O * 2 ^ v := by rw [e1]; omega
    obtain ⟨w, hw, hl, hc⟩ := rl0 h O hO t ht1 b c1 c2 c3 k v (by omega) (by omega)
    have hstep : numeralref11_Pack.l0 (k + (v + 1)) size (((O * 2 ^ (v + 1) : Nat) : Int) / 2) (wrap64 (t - ((v + 1 : Nat) : Int) + 1)) F b c1 c2 c3 = numeralref11_Pack.j3 (k + w) size ((O * 2 ^ w : Nat) : Int) (t - w) F b c1 c2 c3 := by
      rw [wrapi_id (n := t - ((v + 1 : Nat) : Int) + 1) (by omega) (by omega), show t - ((v + 1 : Nat) : Int) + 1 = t - (v : Int) by omega, show ((O * 2 ^ (v + 1) : Nat) : Int) / 2 = ((O * 2 ^ v : Nat) : Int) by omega]
      exact hl
    rw [numeralref11_Pack.l0, and_one hm, e2, if_pos (by rfl), wrapu_id (n := (F : Int) + 1) (by omega) (by omega), if_pos (by omega)]
    have hs := shr_u (O * 2 ^ (v + 1)) (F + 1) (by omega)
    rw [show ((F + 1 : Nat) : Int) = (F : Int) + 1 by omega] at hs
    rw [hs]
    by_cases hz : O * 2 ^ (v + 1) / 2 ^ (F + 1) = 0
    · rw [if_pos (by omega), bind_eq (rlow_ok h)]
      by_cases hlt : t - ((v + 1 : Nat) : Int) < L
      · rw [if_pos hlt, hstep]
        exact ⟨w, by omega, rfl, hc⟩
      · rw [if_neg hlt]
        refine ⟨v + 1, Nat.le_refl _, rfl, .inr ⟨?_, by omega⟩⟩
        rcases Nat.div_eq_zero_iff.1 hz with h0 | h0
        · have := Nat.two_pow_pos (F + 1); omega
        · exact h0
    · rw [if_neg (by omega), hstep]
      exact ⟨w, by omega, rfl, hc⟩
theorem rl1 {size F E S : Nat} {L : Int} {I : Nat} (h : IsFmt size F E S L I) (O : Nat) (t : Int) (b : Bool) (c1 c2 c3 : Int) (k : Nat) : ∀ (d u : Nat), O * 2 ^ u < 18446744073709551616 → -10000 ≤ t - u - d → t - u ≤ 10000 → 2 ^ F ≤ O * 2 ^ u * 2 ^ d →
    ∃ w k', u ≤ w ∧ k ≤ k' ∧ numeralref11_Pack.l1 (k + d + 1) size ((O * 2 ^ u : Nat) : Int) (t - u) F b c1 c2 c3 = numeralref11_Pack.j5 k' size ((O * 2 ^ w : Nat) : Int) (t - w) F b c1 c2 c3 ∧ (2 ^ F ≤ O * 2 ^ w ∨ t - w ≤ L) ∧ (w = u ∨ O * 2 ^ w < 2 ^ (F + 1) ∧ L ≤ t - w) := by
  obtain ⟨hF0, hF, hS, hFS, hL, _, hF23⟩ := fmt_small h
  intro d
  induction d with
  | zero =>
    intro u hm h1 h2 hd
    refine ⟨u, k, Nat.le_refl _, Nat.le_refl _, ?_, .inl (by simpa using hd), .inl rfl⟩
    rw [numeralref11_Pack.l1, if_pos (by omega), shr_u _ F (by omega)]
    have : 1 ≤ O * 2 ^ u / 2 ^ F := (Nat.one_le_div_iff (Nat.two_pow_pos F)).2 (by simpa using hd)
    rw [if_neg (by omega)]
  | succ d ih =>
    intro u hm h1 h2 hd
    rw [numeralref11_Pack.l1, if_pos (by omega), shr_u _ F (by omega)]
    by_cases hz : O * 2 ^ u < 2 ^ F
    · rw [if_pos (by rw [Nat.div_eq_of_lt hz]; rfl), bind_eq (rlow_ok h)]
      by_cases hlt : t - (u : Int) > L
      · have e1 : O * 2 ^ (u + 1) = O * 2 ^ u * 2 := by rw [Nat.pow_succ, Nat.mul_assoc]
        have e2 : 2 ^ (F + 1) = 2 ^ F * 2 := Nat.pow_succ ..
        have h64 : 2 ^ (F + 1) ≤ 18446744073709551616 := pow_le64 (by omega)
        obtain ⟨w, k', hw, hk, hl, hc, hq⟩ := ih (u + 1) (by omega) (by omega) (by omega) (by rw [e1, Nat.mul_assoc, ← Nat.pow_succ']; exact hd)
        rw [if_pos hlt, wrapu_id (n := ((O * 2 ^ u : Nat) : Int) * 2) (by omega) (by omega), wrapi_id (n := t - (u : Int) - 1) (by omega) (by omega), show ((O * 2 ^ u : Nat) : Int) * 2 = ((O * 2 ^ (u + 1) : Nat) : Int) by omega, show t - (u : Int) - 1 = t - ((u + 1 : Nat) : Int) by omega, show k + (d + 1) = k + d + 1 by omega, hl]
        refine ⟨w, k', by omega, hk, rfl, hc, .inr ?_⟩
        rcases hq with rfl | hq
        · exact ⟨by omega, by omega⟩
        · exact hq
      · rw [if_neg hlt]
        exact ⟨u, k + (d + 1), Nat.le_refl _, by omega, rfl, .inr (by omega), .inl rfl⟩
    · have : 1 ≤ O * 2 ^ u / 2 ^ F := (Nat.one_le_div_iff (Nat.two_pow_pos F)).2 (by omega)
      rw [if_neg (by omega)]
      exact ⟨u, k + (d + 1), Nat.le_refl _, by omega, rfl, .inl (by omega), .inl rfl⟩
theorem rtop_ok {size F E S : Nat} {L : Int} {I : Nat} (h : IsFmt size F E S L I) : numeralref11_Top.f size = some (2 ^ E - 1) := by
  rcases h with ⟨rfl, rfl, rfl, rfl, rfl, rfl⟩ | ⟨rfl, rfl, rfl, rfl, rfl, rfl⟩ <;> decide +kernel
/-- The signed bits, or none beside an error. -/
def signv (S : Nat) (neg : Bool) (r : Int × Int) : Int × Int := if r.2 = 0 then (if neg then (r.1 + 2 ^ S, 0) else (r.1, 0)) else (0, r.2)
theorem packv_lt {size F E S : Nat} {L : Int} {I : Nat} (h : IsFmt size F E S L I) {M : Nat} {X : Int} (hM : M < 2 ^ (F + 1)) (hX : L ≤ X) (hf : ¬ X - L + 1 ≥ 2 ^ E - 1) : (X - L).toNat * 2 ^ F + M < 2 ^ S := by
  rcases fmt_E h with ⟨h1, h2, h3, h4⟩ | ⟨h1, h2, h3, h4⟩ <;> rcases h with ⟨_, _, _, hS, _⟩ | ⟨_, hF', _, hS, _⟩ <;> subst h3 <;> subst hS <;> omega
theorem rj5_ok {size F E S : Nat} {L : Int} {I : Nat} (h : IsFmt size F E S L I) {M : Nat} {X : Int} (hM : M < 2 ^ (F + 1)) (hX : L ≤ X) (hX2 : X ≤ 10000) (hn : 2 ^ F ≤ M ∨ X = L) (b : Bool) (c1 c2 c3 : Int) (k : Nat) :
    numeralref11_Pack.j5 (k + 2) size (M : Int) X F b c1 c2 c3 = some (signv S b (packv F E L M X)) := by
  obtain ⟨hF0, hF, hS, hFS, hL, _, hF23⟩ := fmt_small h
  have h64 : 2 ^ (F + 1) ≤ 18446744073709551616 := pow_le64 (by omega)
  have hbE := fmt_E h
  have hs := shr_u M (F + 1) (by omega)
  rw [show ((F + 1 : Nat) : Int) = (F : Int) + 1 by omega] at hs
  rw [numeralref11_Pack.j5, bind_eq (rlow_ok h), wrapu_id (n := (F : Int) + 1) (by omega) (by omega), if_pos (by omega), hs, Nat.div_eq_of_lt hM, if_pos (by rfl), bind_eq (rlow_ok h), if_neg (by omega), if_pos (by omega), shr_u M F (by omega), wrapi_id (n := X - L) (by omega) (by omega), wrapi_id (n := X - L + 1) (by omega) (by omega)]
  unfold packv signv
  by_cases hc : M < 2 ^ F
  · have hMS : M < 2 ^ S := Nat.lt_of_lt_of_le hc (Nat.pow_le_pow_right (by decide) (by omega))
    rw [if_pos (by rw [Nat.div_eq_of_lt hc]; rfl), if_pos hc, numeralref11_Pack.j6, if_neg (by decide), if_pos (by omega), shr_u M F (by omega), Nat.div_eq_of_lt hc, if_pos (by rfl), bind_eq (Signed_ok h b hMS)]
    cases b <;> simp
  · have hd : M / 2 ^ F = 1 := by
      have : 2 ^ (F + 1) = 2 ^ F * 2 := Nat.pow_succ ..
      apply Nat.div_eq_of_lt_le <;> omega
    have hmod : M % 2 ^ F = M - 2 ^ F := by
      have := Nat.div_add_mod M (2 ^ F)
      rw [hd] at this; omega
    rw [hd, if_neg (by decide), if_neg hc, bind_eq (rtop_ok h), wrapi_id (n := (2 : Int) ^ E - 1) (by rcases hbE with ⟨h1, _⟩ | ⟨h1, _⟩ <;> omega) (by rcases hbE with ⟨h1, _⟩ | ⟨h1, _⟩ <;> omega)]
    by_cases hf : X - L + 1 ≥ 2 ^ E - 1
    · rw [decide_eq_true hf, if_pos hf, numeralref11_Pack.j6, if_pos rfl]; rfl
    · rw [decide_eq_false hf, if_neg hf, numeralref11_Pack.j6, if_neg (by decide), if_pos (by omega), shr_u M F (by omega), hd, if_neg (by decide)]
      have hlt := packv_lt h hM hX hf
      obtain ⟨q, hq⟩ : ∃ q : Nat, X - L = q := ⟨(X - L).toNat, by omega⟩
      rw [hq, Int.toNat_natCast] at hlt
      have hS63 : 2 ^ S ≤ 2 ^ 63 := Nat.pow_le_pow_right (by decide) (by omega)
      have e9 : (q + 1) * 2 ^ F + (M - 2 ^ F) = q * 2 ^ F + M := by
        have : (q + 1) * 2 ^ F = q * 2 ^ F + 2 ^ F := by rw [Nat.add_mul, Nat.one_mul]
        omega
      have e8 : (q + 1) * 2 ^ F < 18446744073709551616 := by omega
      rw [hq, Int.toNat_natCast, wrapu_id (n := (q : Int) + 1) (by omega) (by rcases hbE with ⟨h1, _⟩ | ⟨h1, _⟩ <;> omega), mask_u F (by omega), and_mask M F (by omega) (by omega), hmod]
      have hs2 := shl_fit (q + 1) F (by omega) e8
      rw [show ((q + 1 : Nat) : Int) = (q : Int) + 1 by omega] at hs2
      rw [hs2, or_disj (q + 1) (M - 2 ^ F) F (by have : 2 ^ (F + 1) = 2 ^ F * 2 := Nat.pow_succ ..; omega) (by omega), e9, bind_eq (Signed_ok h b hlt)]
      cases b <;> simp
end Go.Proofs.YtdddkkojgepnmaaDoor.XcB
