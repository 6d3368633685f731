
/- Packing of fine floats, whole: the program's Pack and the reference's come to the same. -/
import Derived.Test.YtdddkkojgepnmaaDoorXcR
import Derived.Test.YtdddkkojgepnmaaDoorXcx6
import Derived.Test.YtdddkkojgepnmaaDoorXcx9
namespace Go.Proofs.YtdddkkojgepnmaaDoor.XcB
open Go.RowKit Go.Proofs.YtdddkkojgepnmaaDoor.Xc Go.Proofs.YtdddkkojgepnmaaDoor.A Go.Proofs.YtdddkkojgepnmaaDoorW.PrintWords Go.Proofs.YtdddkkojgepnmaaDoorW.PrintLast Go.Proofs.YtdddkkojgepnmaaDoorW.PrintMore
set_option linter.unusedSimpArgs false
set_option linter.unusedVariables false

def errv (c : Int) : Option Int := if c = 0 then none else some c
theorem packv_err (F E : Nat) (L : Int) (M : Nat) (X : Int) : (packv F E L M X).2 = 0 ∨ packv F E L M X = (0, 4) := by
  unfold packv
  by_cases h1 : M < 2 ^ F
  · rw [if_pos h1]; exact .inl rfl
  · rw [if_neg h1]
    by_cases h2 : X - L + 1 ≥ 2 ^ E - 1
    · rw [if_pos h2]; exact .inr rfl
    · rw [if_neg h2]; exact .inl rfl
theorem packv_nat {size F E S : Nat} {L : Int} {I : Nat} (h : IsFmt size F E S L I) {M : Nat} {X : Int} (hM : M < 2 ^ (F + 1)) (hX : L ≤ X) (h0 : (packv F E L M X).2 = 0) : ∃ q : Nat, packv F E L M X = ((q : Int), 0) ∧ q < 2 ^ S := by
  obtain ⟨hF0, hF, hS, hFS, hL, _, hF23⟩ := fmt_small h
  unfold packv at h0 ⊢
  by_cases h1 : M < 2 ^ F
  · rw [if_pos h1]
    exact ⟨M, rfl, Nat.lt_of_lt_of_le h1 (Nat.pow_le_pow_right (by decide) (by omega))⟩
  · rw [if_neg h1] at h0 ⊢
    by_cases h2 : X - L + 1 ≥ 2 ^ E - 1
    · rw [if_pos h2] at h0; exact absurd h0 (by decide)
    · rw [if_neg h2]
      exact ⟨_, rfl, packv_lt h hM hX h2⟩
theorem Pack_rep {size F E S : Nat} {L : Int} {I : Nat} (h : IsFmt size F E S L I) {o n u : Nat} {e : Int} (hm : (2 * o + 1) * 2 ^ n < 18446744073709551616) (hn : Lib.ctz 64 ((2 * o + 1) * 2 ^ n) = n) (hn64 : n < 64)
    (he0 : -5000 ≤ e) (he1 : e ≤ 5000) (hr : Rep F L (e + n) (2 * o + 1) u) (neg : Bool) (k : Nat) :
    bits_Pack.f (k + 2) neg 2 (((2 * o + 1) * 2 ^ n : Nat) : Int) e size = some ((signv S neg (packv F E L ((2 * o + 1) * 2 ^ u) (e + n - u))).1, errv (signv S neg (packv F E L ((2 * o + 1) * 2 ^ u) (e + n - u))).2) := by
  obtain ⟨hF0, hF, hS, hFS, hL, _, hF23⟩ := fmt_small h
  have hpos : 0 < (2 * o + 1) * 2 ^ n := Nat.mul_pos (by omega) (Nat.two_pow_pos n)
  unfold bits_Pack.f
  rw [bind_eq (formatOf_ok h), if_pos (by rfl), if_neg (by decide), if_neg (by decide), if_neg (by decide), if_pos (by rfl), if_neg (by omega), bind_eq (fine_ok h hm hn hn64 he0 he1 hr k)]
  obtain ⟨r1, r2, r3⟩ := hr
  generalize hp : packv F E L ((2 * o + 1) * 2 ^ u) (e + n - u) = p
  rcases packv_err F E L ((2 * o + 1) * 2 ^ u) (e + n - u) with h0 | h0
  · obtain ⟨q, hq, hqS⟩ := packv_nat h r1 (by omega) h0
    rw [hp] at hq
    subst hq
    have hS63 : 2 ^ S ≤ 2 ^ 63 := Nat.pow_le_pow_right (by decide) (by omega)
    have hor := or_disj' 1 q S hqS (by omega)
    rw [Nat.one_mul] at hor
    rw [if_pos (by rfl), bind_eq (sign_ok h)]
    unfold signv errv
    cases neg
    · rfl
    · rw [if_pos rfl, if_pos rfl, if_pos rfl, hor]
      simp only [if_true]
      rw [show ((2 ^ S + q : Nat) : Int) = (q : Int) + 2 ^ S by rw [Int.natCast_add, Int.natCast_pow]; exact Int.add_comm _ _]
  · rw [hp] at h0
    subst h0
    rw [if_neg (by simp)]
    rfl
theorem Pack_none {size F E S : Nat} {L : Int} {I : Nat} (h : IsFmt size F E S L I) {o n : Nat} {e : Int} (hm : (2 * o + 1) * 2 ^ n < 18446744073709551616) (hn : Lib.ctz 64 ((2 * o + 1) * 2 ^ n) = n) (hn64 : n < 64)
    (he0 : -5000 ≤ e) (he1 : e ≤ 5000) (hr : 2 ^ (F + 1) ≤ 2 * o + 1 ∨ e + n < L) (neg : Bool) (k : Nat) :
    bits_Pack.f (k + 2) neg 2 (((2 * o + 1) * 2 ^ n : Nat) : Int) e size = some (0, some 4) := by
  have hpos : 0 < (2 * o + 1) * 2 ^ n := Nat.mul_pos (by omega) (Nat.two_pow_pos n)
  unfold bits_Pack.f
  rw [bind_eq (formatOf_ok h), if_pos (by rfl), if_neg (by decide), if_neg (by decide), if_neg (by decide), if_pos (by rfl), if_neg (by omega), bind_eq (fine_none h hm hn hn64 he0 he1 hr k), if_neg (by simp)]
  rfl
theorem Pack_far {size F E S : Nat} {L : Int} {I : Nat} (h : IsFmt size F E S L I) {m : Nat} {e : Int} (hm0 : 0 < m) (hm : m < 18446744073709551616) (he : e < -5000 ∨ 5000 < e) (neg : Bool) (k : Nat) :
    bits_Pack.f (k + 1) neg 2 (m : Int) e size = some (0, some 4) := by
  unfold bits_Pack.f
  rw [bind_eq (formatOf_ok h), if_pos (by rfl), if_neg (by decide), if_neg (by decide), if_neg (by decide), if_pos (by rfl), if_neg (by omega), bind_eq (fine_far hm he k), if_neg (by simp)]
  rfl
theorem rj5_none {size F E S : Nat} {L : Int} {I : Nat} (h : IsFmt size F E S L I) {M : Nat} {X : Int} (hM : 2 ^ (F + 1) ≤ M ∨ X < L) (b : Bool) (c1 c2 c3 : Int) (k : Nat) :
    numeralref11_Pack.j5 (k + 2) size (M : Int) X F b c1 c2 c3 = some (0, 4) := by
  obtain ⟨hF0, hF, hS, hFS, hL, _, hF23⟩ := fmt_small h
  have hs := shr_u M (F + 1) (by omega)
  rw [show ((F + 1 : Nat) : Int) = (F : Int) + 1 by omega] at hs
  rw [numeralref11_Pack.j5, bind_eq (rlow_ok h), wrapu_id (n := (F : Int) + 1) (by omega) (by omega), if_pos (by omega), hs]
  by_cases hc : M / 2 ^ (F + 1) = 0
  · rw [hc, if_pos (by rfl), bind_eq (rlow_ok h)]
    have hlt : M < 2 ^ (F + 1) := by
      rcases Nat.div_eq_zero_iff.1 hc with h0 | h0
      · have := Nat.two_pow_pos (F + 1); omega
      · exact h0
    rw [if_pos (by omega), numeralref11_Pack.j6, if_pos rfl]
  · rw [if_neg (by omega), numeralref11_Pack.j6, if_pos rfl]
/-- From the loops' begin: the end's arguments. -/
theorem rloops {size F E S : Nat} {L : Int} {I : Nat} (h : IsFmt size F E S L I) (O n : Nat) (hO : O % 2 = 1) (hm : O * 2 ^ n < 18446744073709551616) (hn : n < 64) (e : Int) (he0 : -4000 ≤ e) (he1 : e ≤ 4000) (b : Bool) (c1 c2 c3 : Int) (k : Nat) (hk : 190 ≤ k) :
    ∃ (w k' : Nat), numeralref11_Pack.l0 k size ((O * 2 ^ n : Nat) : Int) e F b c1 c2 c3 = numeralref11_Pack.j5 (k' + 2) size ((O * 2 ^ w : Nat) : Int) (e + n - w) F b c1 c2 c3 ∧ (2 ^ F ≤ O * 2 ^ w ∨ e + n - w ≤ L) ∧ (w = 0 ∨ O * 2 ^ w < 2 ^ (F + 1) ∧ L ≤ e + n - w) := by
  obtain ⟨hF0, hF, hS, hFS, hL, _, hF23⟩ := fmt_small h
  obtain ⟨k1, hk1⟩ : ∃ k1, k = k1 + n + 1 := ⟨k - n - 1, by omega⟩
  obtain ⟨v, hv, hl, hc⟩ := rl0 h O hO (e + n) (by omega) b c1 c2 c3 k1 n hm (by omega)
  obtain ⟨k2, hk2⟩ : ∃ k2, k1 + v = (k2 + F + 1) + 1 ∧ 2 ≤ k2 := ⟨k1 + v - F - 2, by omega, by omega⟩
  have hv64 : O * 2 ^ v < 18446744073709551616 := Nat.lt_of_le_of_lt (Nat.mul_le_mul_left _ (Nat.pow_le_pow_right (by decide) hv)) hm
  have hpos : 1 ≤ O * 2 ^ v := Nat.mul_pos (by omega) (Nat.two_pow_pos v)
  obtain ⟨w, k', hw, hk', hl2, hc2, hq2⟩ := rl1 h O (e + n) b c1 c2 c3 k2 F v hv64 (by omega) (by omega) (by have := Nat.mul_le_mul_right (2 ^ F) hpos; omega)
  refine ⟨w, k' - 2, ?_, hc2, ?_⟩
  · rw [show e + (n : Int) - (n : Int) = e by omega] at hl
    rw [hk1, hl, hk2.1, numeralref11_Pack.j3, hl2, show k' - 2 + 2 = k' by omega]
  · rcases hq2 with rfl | hq2
    · exact hc
    · exact .inr hq2
theorem rPack_enter {size F E S : Nat} {L : Int} {I : Nat} (h : IsFmt size F E S L I) {m : Nat} (hm0 : 0 < m) {e : Int} (he0 : -4000 ≤ e) (he1 : e ≤ 4000) (neg : Bool) (k : Nat) :
    numeralref11_Pack.f (k + 2) neg 2 (m : Int) e size = numeralref11_Pack.l0 k size (m : Int) e F neg 2 (m : Int) e := by
  obtain ⟨hF0, hF, hS, hFS, hL, _, hF23⟩ := fmt_small h
  unfold numeralref11_Pack.f
  rw [bind_eq (rsize_ok h), if_pos rfl, if_neg (by decide), if_neg (by decide), if_pos rfl, if_neg (by omega), numeralref11_Pack.j0, if_neg (by decide), if_neg (by decide), if_neg (by decide), bind_eq (rfrac_ok h), wrapu_id (n := (F : Int)) (by omega) (by omega), if_neg (by omega), decide_eq_false (by omega), numeralref11_Pack.j1, if_neg (by decide)]
theorem rPack_far {size F E S : Nat} {L : Int} {I : Nat} (h : IsFmt size F E S L I) {m : Nat} (hm0 : 0 < m) {e : Int} (he : e < -4000 ∨ 4000 < e) (neg : Bool) (k : Nat) :
    numeralref11_Pack.f (k + 2) neg 2 (m : Int) e size = some (0, 4) := by
  obtain ⟨hF0, hF, hS, hFS, hL, _, hF23⟩ := fmt_small h
  unfold numeralref11_Pack.f
  rw [bind_eq (rsize_ok h), if_pos rfl, if_neg (by decide), if_neg (by decide), if_pos rfl, if_neg (by omega), numeralref11_Pack.j0, if_neg (by decide), if_neg (by decide), if_neg (by decide), bind_eq (rfrac_ok h), wrapu_id (n := (F : Int)) (by omega) (by omega)]
  by_cases hc : e < -4000
  · rw [if_pos hc, numeralref11_Pack.j1, if_pos rfl]
  · rw [if_neg hc, decide_eq_true (by omega), numeralref11_Pack.j1, if_pos rfl]
theorem rPack_rep {size F E S : Nat} {L : Int} {I : Nat} (h : IsFmt size F E S L I) {o n u : Nat} {e : Int} (hm : (2 * o + 1) * 2 ^ n < 18446744073709551616) (hn64 : n < 64)
    (he0 : -4000 ≤ e) (he1 : e ≤ 4000) (hr : Rep F L (e + n) (2 * o + 1) u) (neg : Bool) (k : Nat) :
    numeralref11_Pack.f (k + 200) neg 2 (((2 * o + 1) * 2 ^ n : Nat) : Int) e size = some (signv S neg (packv F E L ((2 * o + 1) * 2 ^ u) (e + n - u))) := by
  obtain ⟨hF0, hF, hS, hFS, hL, _, hF23⟩ := fmt_small h
  have hpos : 0 < (2 * o + 1) * 2 ^ n := Nat.mul_pos (by omega) (Nat.two_pow_pos n)
  obtain ⟨ho, ht⟩ := Rep_pos hr
  obtain ⟨w, k', hl, hc, hq⟩ := rloops h (2 * o + 1) n (by omega) hm hn64 e he0 he1 neg 2 (((2 * o + 1) * 2 ^ n : Nat) : Int) e (k + 198) (by omega)
  have hq2 : (2 * o + 1) * 2 ^ w < 2 ^ (F + 1) ∧ L ≤ e + n - w := by
    rcases hq with rfl | hq
    · exact ⟨by rw [Nat.pow_zero, Nat.mul_one]; exact ho, by omega⟩
    · exact hq
  have hw : Rep F L (e + n) (2 * o + 1) w := ⟨hq2.1, hq2.2, by omega⟩
  obtain rfl := Rep_unique hr hw
  rw [rPack_enter h hpos he0 he1 neg (k + 198), hl, rj5_ok h hq2.1 hq2.2 (by omega) (by omega)]
theorem rPack_none {size F E S : Nat} {L : Int} {I : Nat} (h : IsFmt size F E S L I) {o n : Nat} {e : Int} (hm : (2 * o + 1) * 2 ^ n < 18446744073709551616) (hn64 : n < 64)
    (he0 : -4000 ≤ e) (he1 : e ≤ 4000) (hr : 2 ^ (F + 1) ≤ 2 * o + 1 ∨ e + n < L) (neg : Bool) (k : Nat) :
    numeralref11_Pack.f (k + 200) neg 2 (((2 * o + 1) * 2 ^ n : Nat) : Int) e size = some (0, 4) := by
  have hpos : 0 < (2 * o + 1) * 2 ^ n := Nat.mul_pos (by omega) (Nat.two_pow_pos n)
  obtain ⟨w, k', hl, hc, hq⟩ := rloops h (2 * o + 1) n (by omega) hm hn64 e he0 he1 neg 2 (((2 * o + 1) * 2 ^ n : Nat) : Int) e (k + 198) (by omega)
  have hw : w = 0 := by
    rcases hq with hq | hq
    · exact hq
    · have : 2 * o + 1 ≤ (2 * o + 1) * 2 ^ w := Nat.le_mul_of_pos_right _ (Nat.two_pow_pos w)
      omega
  subst hw
  rw [rPack_enter h hpos he0 he1 neg (k + 198), hl, rj5_none h (by rw [Nat.pow_zero, Nat.mul_one]; omega)]
theorem odd_part {m : Nat} (h0 : 0 < m) (h : m < 18446744073709551616) : ∃ o n, m = (2 * o + 1) * 2 ^ n ∧ Lib.ctz 64 ((2 * o + 1) * 2 ^ n) = n ∧ n < 64 := by
  obtain ⟨o, h1, h2⟩ := ctz_spec h0 h
  exact ⟨o, Lib.ctz 64 m, h1, by rw [← h1], h2⟩
theorem rep_or {F : Nat} {L t : Int} {o : Nat} (hF : F < 63) : (∃ u, Rep F L t (2 * o + 1) u) ∨ (2 ^ (F + 1) ≤ 2 * o + 1 ∨ t < L) := by
  by_cases h1 : 2 * o + 1 < 2 ^ (F + 1)
  · by_cases h2 : L ≤ t
    · exact .inl ⟨_, (bitLen_rep (by omega) h1 h2 hF).2⟩
    · exact .inr (.inr (by omega))
  · exact .inr (.inl (by omega))
/-- Both pack a fine float to the same. -/
theorem Pack_both {size F E S : Nat} {L : Int} {I : Nat} (h : IsFmt size F E S L I) {m : Nat} (hm0 : 0 < m) (hm : m < 18446744073709551616) (e : Int) (neg : Bool) (k : Nat) :
    ∃ r : Int × Int, bits_Pack.f (k + 200) neg 2 (m : Int) e size = some (r.1, errv r.2) ∧ numeralref11_Pack.f (k + 200) neg 2 (m : Int) e size = some r := by
  obtain ⟨hF0, hF, hS, hFS, hL, _, hF23⟩ := fmt_small h
  obtain ⟨o, n, rfl, hn, hn64⟩ := odd_part hm0 hm
  by_cases hfar : e < -5000 ∨ 5000 < e
  · exact ⟨(0, 4), Pack_far h hm0 hm hfar neg (k + 199), rPack_far h hm0 (by omega) neg (k + 198)⟩
  · rcases rep_or (F := F) (L := L) (t := e + n) (o := o) hF with ⟨u, hr⟩ | hr
    · by_cases hf2 : e < -4000 ∨ 4000 < e
      · refine ⟨(0, 4), ?_, rPack_far h hm0 hf2 neg (k + 198)⟩
        rw [Pack_rep h hm hn hn64 (by omega) (by omega) hr neg (k + 198)]
        obtain ⟨r1, r2, r3⟩ := hr
        have hu : u ≤ F + 1 := by
          rcases Nat.lt_or_ge (F + 1) u with hc | hc
          · have h1 : 2 ^ (F + 1) ≤ 2 ^ u := Nat.pow_le_pow_right (by decide) (by omega)
            have h2 : 2 ^ u ≤ (2 * o + 1) * 2 ^ u := Nat.le_mul_of_pos_left _ (by omega)
            omega
          · exact hc
        have hbig : 2000 < e + n - u - L := by omega
        have hMF : ¬ (2 * o + 1) * 2 ^ u < 2 ^ F := by omega
        have hE := fmt_E h
        have hpk : packv F E L ((2 * o + 1) * 2 ^ u) (e + n - u) = (0, 4) := by
          unfold packv
          rw [if_neg hMF, if_pos (by rcases hE with ⟨h1, _⟩ | ⟨h1, _⟩ <;> omega)]
        rw [hpk]; rfl
      · exact ⟨_, Pack_rep h hm hn hn64 (by omega) (by omega) hr neg (k + 198), rPack_rep h hm hn64 (by omega) (by omega) hr neg k⟩
    · refine ⟨(0, 4), Pack_none h hm hn hn64 (by omega) (by omega) hr neg (k + 198), ?_⟩
      by_cases hf2 : e < -4000 ∨ 4000 < e
      · exact rPack_far h hm0 hf2 neg (k + 198)
      · exact rPack_none h hm hn64 (by omega) (by omega) hr neg k
end Go.Proofs.YtdddkkojgepnmaaDoor.XcB
