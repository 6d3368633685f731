
/- Packing of fine floats: the normal form of o times two to the t, by the program and by the reference's loops. -/
import Derived.Test.YtbnmchaldolpfaaDoorXsC
import Derived.Test.YtbnmchaldolpfaaDoorXsx1
import Derived.Test.YtbnmchaldolpfaaDoorXsx2
namespace Go.Proofs.YtbnmchaldolpfaaDoor.XsB
open Go.RowKit Go.Proofs.YtbnmchaldolpfaaDoor.Xs Go.Proofs.YtbnmchaldolpfaaDoor.A Go.Proofs.YtbnmchaldolpfaaDoorW.PrintWords Go.Proofs.YtbnmchaldolpfaaDoorW.PrintLast Go.Proofs.YtbnmchaldolpfaaDoorW.PrintMore
set_option linter.unusedSimpArgs false
set_option linter.unusedVariables false

/-- o times two to the u is the mantissa of o times two to the t. -/
def Rep (F : Nat) (L t : Int) (o u : Nat) : Prop := o * 2 ^ u < 2 ^ (F + 1) ∧ L ≤ t - u ∧ (2 ^ F ≤ o * 2 ^ u ∨ t - u = L)
theorem Rep_le {F : Nat} {L t : Int} {o u v : Nat} (hu : Rep F L t o u) (hv : Rep F L t o v) : v ≤ u := by
  rcases Nat.lt_or_ge u v with h | h
  · exfalso
    obtain ⟨u1, u2, u3⟩ := hu
    obtain ⟨v1, v2, v3⟩ := hv
    obtain ⟨d, rfl⟩ : ∃ d, v = u + 1 + d := ⟨v - u - 1, by omega⟩
    have e : o * 2 ^ (u + 1 + d) = o * 2 ^ u * 2 * 2 ^ d := by rw [Nat.pow_add, Nat.pow_succ]; simp only [Nat.mul_assoc]
    have hd : 0 < 2 ^ d := Nat.two_pow_pos d
    have h2 : o * 2 ^ u * 2 ≤ o * 2 ^ u * 2 * 2 ^ d := Nat.le_mul_of_pos_right _ hd
    have h3 : 2 ^ (F + 1) = 2 ^ F * 2 := Nat.pow_succ ..
    have h4 : o * 2 ^ u < 2 ^ F := by omega
    rcases u3 with h5 | h5
    · omega
    · omega
  · exact h
theorem Rep_unique {F : Nat} {L t : Int} {o u v : Nat} (hu : Rep F L t o u) (hv : Rep F L t o v) : u = v := Nat.le_antisymm (Rep_le hv hu) (Rep_le hu hv)
theorem Rep_pos {F : Nat} {L t : Int} {o u : Nat} (hu : Rep F L t o u) : o < 2 ^ (F + 1) ∧ L ≤ t := by
  obtain ⟨u1, u2, _⟩ := hu
  have : 0 < 2 ^ u := Nat.two_pow_pos u
  have : o ≤ o * 2 ^ u := Nat.le_mul_of_pos_right _ this
  omega
/-- The bits of a mantissa and an exponent, and the error's number. -/
def packv (F E : Nat) (L : Int) (M : Nat) (X : Int) : Int × Int :=
  if M < 2 ^ F then ((M : Int), 0) else if X - L + 1 ≥ 2 ^ E - 1 then (0, 4) else ((((X - L).toNat * 2 ^ F + M : Nat) : Int), 0)
theorem bitLen_rep {F : Nat} {L t : Int} {o : Nat} (h0 : 0 < o) (ho : o < 2 ^ (F + 1)) (ht : L ≤ t) (hF : F < 63) :
    Lib.bitLen o ≤ F + 1 ∧ Rep F L t o (min (F + 1 - Lib.bitLen o) (t - L).toNat) := by
  have h64 : 2 ^ (F + 1) ≤ 18446744073709551616 := pow_le64 (by omega)
  have hle : Lib.bitLen o ≤ F + 1 := Lib.bitLen_le o (F + 1) (by omega) ho
  obtain ⟨b0, b1, b2⟩ := blen_spec _ o rfl h0 (by omega)
  generalize hb : Lib.bitLen o = b at *
  refine ⟨hle, ?_⟩
  generalize hu : min (F + 1 - b) (t - L).toNat = u
  have hu1 : u ≤ F + 1 - b := by omega
  have hu2 : u ≤ (t - L).toNat := by omega
  refine ⟨?_, by omega, ?_⟩
  · have h1 : o * 2 ^ u < 2 ^ b * 2 ^ u := Nat.mul_lt_mul_of_pos_right b2 (Nat.two_pow_pos u)
    rw [← Nat.pow_add] at h1
    exact Nat.lt_of_lt_of_le h1 (Nat.pow_le_pow_right (by decide) (by omega))
  · by_cases hc : u = F + 1 - b
    · left
      have h1 : 2 ^ (b - 1) * 2 ^ u ≤ o * 2 ^ u := Nat.mul_le_mul_right _ b1
      rw [← Nat.pow_add, show b - 1 + u = F by omega] at h1
      exact h1
    · right; omega
theorem fmt_E {size F E S : Nat} {L : Int} {I : Nat} (h : IsFmt size F E S L I) : (2 : Int) ^ E - 1 = 255 ∧ E = 8 ∧ F = 23 ∧ L = -149 ∨ (2 : Int) ^ E - 1 = 2047 ∧ E = 11 ∧ F = 52 ∧ L = -1074 := by
  rcases h with ⟨rfl, rfl, rfl, rfl, rfl, rfl⟩ | ⟨rfl, rfl, rfl, rfl, rfl, rfl⟩ <;> simp
theorem shl_i64_E {E : Nat} (hE : E = 8 ∨ E = 11) : wrap64 (shl .i64 1 (E : Int) - 1) = 2 ^ E - 1 := by
  rcases hE with rfl | rfl <;> decide +kernel
theorem mn_int (a b : Int) : mn a b = min a b := by unfold mn; split <;> omega
/-- The program's fine, where o times two to the t has a normal form. -/
theorem fine_ok {size F E S : Nat} {L : Int} {I : Nat} (h : IsFmt size F E S L I) {o n u : Nat} {e : Int} (hm : (2 * o + 1) * 2 ^ n < 18446744073709551616) (hn : Lib.ctz 64 ((2 * o + 1) * 2 ^ n) = n) (hn64 : n < 64)
    (he0 : -5000 ≤ e) (he1 : e ≤ 5000) (hr : Rep F L (e + n) (2 * o + 1) u) (k : Nat) :
    bits_format_fine.f (k + 2) F E (((2 * o + 1) * 2 ^ n : Nat) : Int) e = some ((packv F E L ((2 * o + 1) * 2 ^ u) (e + n - u)).1, if (packv F E L ((2 * o + 1) * 2 ^ u) (e + n - u)).2 = 0 then none else some (packv F E L ((2 * o + 1) * 2 ^ u) (e + n - u)).2) := by
  obtain ⟨hF0, hF, hS, hFS, hL, _, hF23⟩ := fmt_small h
  obtain ⟨ho, ht⟩ := Rep_pos hr
  have h64 : 2 ^ (F + 1) ≤ 18446744073709551616 := pow_le64 (by omega)
  obtain ⟨hb, hr2⟩ := bitLen_rep (L := L) (t := e + n) (by omega : 0 < 2 * o + 1) ho ht hF
  have hu := Rep_unique hr hr2
  have hbE := fmt_E h
  have htz : bits_TrailingZeros64.f (((2 * o + 1) * 2 ^ n : Nat) : Int) = some (n : Int) := by
    unfold bits_TrailingZeros64.f u64ok
    rw [if_pos (u64ok_of hm), Int.toNat_natCast, hn]
  have hlen : bits_Len64.f ((2 * o + 1 : Nat) : Int) = some ((Lib.bitLen (2 * o + 1) : Nat) : Int) := by
    unfold bits_Len64.f u64ok
    rw [if_pos (u64ok_of (by omega)), Int.toNat_natCast]
  have hdiv : (2 * o + 1) * 2 ^ n / 2 ^ n = 2 * o + 1 := Nat.mul_div_cancel _ (Nat.two_pow_pos n)
  unfold bits_format_fine.f
  rw [bind_eq htz, if_pos (by omega), if_neg (by omega), shr_u _ n (by omega), hdiv, decide_eq_false (by omega)]
  generalize 2 * o + 1 = O at *
  rw [bits_format_fine.j0, if_neg (by decide), bind_eq hlen, wrapi_id (n := (F : Int) + 1) (by omega) (by omega), if_neg (by omega), bind_eq (least_ok h), wrapi_id (n := e + (n : Int)) (by omega) (by omega), decide_eq_false (by omega)]
  rw [bits_format_fine.j1, if_neg (by decide), bind_eq (least_ok h), wrapi_id (n := (F : Int) + 1) (by omega) (by omega), wrapi_id (n := (F : Int) + 1 - (Lib.bitLen O : Int)) (by omega) (by omega), wrapi_id (n := e + (n : Int) - L) (by omega) (by omega), mn_int]
  have hmin : min ((F : Int) + 1 - (Lib.bitLen O : Int)) (e + (n : Int) - L) = (u : Int) := by omega
  obtain ⟨r1, r2, r3⟩ := hr
  have hu64 : u ≤ 64 := by omega
  have hI : IntKind.u64.bits = 64 := rfl
  rw [hmin, if_pos (by omega), if_pos (by omega), shl_fit O u hu64 (by omega)]
  generalize hM : O * 2 ^ u = M at *
  rw [shr_u M F (by omega)]
  unfold packv
  by_cases hc : M < 2 ^ F
  · rw [if_pos (by rw [Nat.div_eq_of_lt hc]; rfl), if_pos hc]
    rfl
  · have hd : M / 2 ^ F = 1 := by
      have : 2 ^ (F + 1) = 2 ^ F * 2 := Nat.pow_succ ..
      apply Nat.div_eq_of_lt_le <;> omega
    have hmod : M % 2 ^ F = M - 2 ^ F := by
      have := Nat.div_add_mod M (2 ^ F)
      rw [hd] at this; omega
    have hE : E = 8 ∨ E = 11 := by rcases hbE with ⟨_, hE, _⟩ | ⟨_, hE, _⟩ <;> simp [hE]
    rw [if_neg (by omega), bind_eq (least_ok h), if_pos (by omega), if_neg hc, wrapi_id (n := e + (n : Int) - u) (by omega) (by omega), wrapi_id (n := e + (n : Int) - u - L) (by omega) (by omega), wrapi_id (n := e + (n : Int) - u - L + 1) (by omega) (by omega), shl_i64_E hE]
    by_cases hf : e + (n : Int) - u - L + 1 ≥ 2 ^ E - 1
    · rw [if_pos hf, if_pos hf]; rfl
    · rw [if_neg hf, if_neg hf]
      obtain ⟨q, hq⟩ : ∃ q : Nat, e + (n : Int) - u - L = q := ⟨(e + (n : Int) - u - L).toNat, by omega⟩
      have hq2 : q + 1 < 2047 := by rcases hbE with ⟨h1, _⟩ | ⟨h1, _⟩ <;> omega
      have hFq : (q + 1) * 2 ^ F + (M - 2 ^ F) < 18446744073709551616 := by
        rcases hbE with ⟨h1, _, hF', _⟩ | ⟨h1, _, hF', _⟩ <;> subst hF' <;> omega
      rw [hq, wrapu_id (n := (q : Int) + 1) (by omega) (by omega), mask_u F (by omega), and_mask M F (by omega) (by omega), hmod]
      have hs := shl_fit (q + 1) F (by omega) (by omega)
      rw [show ((q + 1 : Nat) : Int) = (q : Int) + 1 by omega] at hs
      rw [hs, or_disj (q + 1) (M - 2 ^ F) F (by have : 2 ^ (F + 1) = 2 ^ F * 2 := Nat.pow_succ ..; omega) hFq]
      have e9 : (q + 1) * 2 ^ F + (M - 2 ^ F) = q * 2 ^ F + M := by
        have : (q + 1) * 2 ^ F = q * 2 ^ F + 2 ^ F := by rw [Nat.add_mul, Nat.one_mul]
        omega
      rw [Int.toNat_natCast, e9]
      rfl
theorem fine_none {size F E S : Nat} {L : Int} {I : Nat} (h : IsFmt size F E S L I) {o n : Nat} {e : Int} (hm : (2 * o + 1) * 2 ^ n < 18446744073709551616) (hn : Lib.ctz 64 ((2 * o + 1) * 2 ^ n) = n) (hn64 : n < 64)
    (he0 : -5000 ≤ e) (he1 : e ≤ 5000) (hr : 2 ^ (F + 1) ≤ 2 * o + 1 ∨ e + n < L) (k : Nat) :
    bits_format_fine.f (k + 2) F E (((2 * o + 1) * 2 ^ n : Nat) : Int) e = some (0, some 4) := by
  obtain ⟨hF0, hF, hS, hFS, hL, _, hF23⟩ := fmt_small h
  have hO : 2 * o + 1 ≤ (2 * o + 1) * 2 ^ n := Nat.le_mul_of_pos_right _ (Nat.two_pow_pos n)
  have htz : bits_TrailingZeros64.f (((2 * o + 1) * 2 ^ n : Nat) : Int) = some (n : Int) := by
    unfold bits_TrailingZeros64.f u64ok
    rw [if_pos (u64ok_of hm), Int.toNat_natCast, hn]
  have hlen : bits_Len64.f ((2 * o + 1 : Nat) : Int) = some ((Lib.bitLen (2 * o + 1) : Nat) : Int) := by
    unfold bits_Len64.f u64ok
    rw [if_pos (u64ok_of (by omega)), Int.toNat_natCast]
  obtain ⟨b0, b1, b2⟩ := blen_spec _ (2 * o + 1) rfl (by omega) (by omega)
  have hdiv : (2 * o + 1) * 2 ^ n / 2 ^ n = 2 * o + 1 := Nat.mul_div_cancel _ (Nat.two_pow_pos n)
  unfold bits_format_fine.f
  rw [bind_eq htz, if_pos (by omega), if_neg (by omega), shr_u _ n (by omega), hdiv, decide_eq_false (by omega)]
  generalize 2 * o + 1 = O at *
  rw [bits_format_fine.j0, if_neg (by decide), bind_eq hlen, wrapi_id (n := (F : Int) + 1) (by omega) (by omega)]
  by_cases hc : ((Lib.bitLen O : Nat) : Int) > (F : Int) + 1
  · rw [if_pos hc, bits_format_fine.j1, if_pos rfl]
  · rw [if_neg hc, bind_eq (least_ok h), wrapi_id (n := e + (n : Int)) (by omega) (by omega)]
    have hlt : O < 2 ^ (F + 1) := Nat.lt_of_lt_of_le b2 (Nat.pow_le_pow_right (by decide) (by omega))
    rw [decide_eq_true (by omega), bits_format_fine.j1, if_pos rfl]
theorem fine_far {F E : Int} {m : Nat} {e : Int} (hm0 : m < 18446744073709551616) (he : e < -5000 ∨ 5000 < e) (k : Nat) : bits_format_fine.f (k + 1) F E (m : Int) e = some (0, some 4) := by
  unfold bits_format_fine.f
  have htz : bits_TrailingZeros64.f (m : Int) = some ((Lib.ctz 64 m : Nat) : Int) := by
    unfold bits_TrailingZeros64.f u64ok
    rw [if_pos (u64ok_of hm0), Int.toNat_natCast]
  rw [bind_eq htz, if_pos (by omega)]
  by_cases hc : e > 5000
  · rw [if_pos hc, bits_format_fine.j0, if_pos rfl]
  · rw [if_neg hc, decide_eq_true (by omega), bits_format_fine.j0, if_pos rfl]
end Go.Proofs.YtbnmchaldolpfaaDoor.XsB
