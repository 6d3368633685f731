
/- Narrowing: the program's and the reference's come to the number on the lesser grid. -/
import Derived.Test.YtdddkkojgepnmaaDoorXcG
import Derived.Test.YtdddkkojgepnmaaDoorXcx11
import Derived.Test.YtdddkkojgepnmaaDoorXcx6
import Derived.Test.YtdddkkojgepnmaaDoorXcx8
namespace Go.Proofs.YtdddkkojgepnmaaDoor.XcB
open Go.RowKit Go.Proofs.YtdddkkojgepnmaaDoor.Xc Go.Proofs.YtdddkkojgepnmaaDoor.A Go.Proofs.YtdddkkojgepnmaaDoor.Q Go.Proofs.YtdddkkojgepnmaaDoorW.PrintWords Go.Proofs.YtdddkkojgepnmaaDoorW.PrintLast Go.Proofs.YtdddkkojgepnmaaDoorW.PrintMore
set_option linter.unusedSimpArgs false
set_option linter.unusedVariables false
theorem rhe_exact {m c : Nat} (h : m % 2 ^ c = 0) : rhe m c = m / 2 ^ c := by
  have := Nat.two_pow_pos c
  unfold rhe; rw [h, if_neg (by omega)]
theorem mod_succ (m t : Nat) : m % 2 ^ (t + 1) = m % 2 ^ t + 2 ^ t * (m / 2 ^ t % 2) := Nat.mod_pow_succ
theorem div_succ (m t : Nat) : m / 2 ^ (t + 1) = m / 2 ^ t / 2 := by rw [Nat.pow_succ, Nat.div_div_eq_div_mul]
/-- One bit more, and whether anything is behind it: rounded. -/
theorem rhe_step (m t : Nat) : rhe m (t + 1) = if m / 2 ^ t % 2 = 1 ∧ (m % 2 ^ t ≠ 0 ∨ m / 2 ^ t / 2 % 2 = 1) then m / 2 ^ t / 2 + 1 else m / 2 ^ t / 2 := by
  have hp := Nat.two_pow_pos t
  have hs : 2 ^ (t + 1) = 2 ^ t * 2 := Nat.pow_succ ..
  have hlt : m % 2 ^ t < 2 ^ t := Nat.mod_lt _ hp
  unfold rhe
  rw [mod_succ, div_succ]
  generalize m / 2 ^ t = q at *
  generalize m % 2 ^ t = r at *
  rcases Nat.mod_two_eq_zero_or_one q with h | h <;> rw [h]
  · rw [if_neg (by omega), if_neg (by omega)]
  · by_cases h2 : r ≠ 0 ∨ q / 2 % 2 = 1
    · rw [if_pos (by omega), if_pos ⟨rfl, h2⟩]
    · rw [if_neg (by omega), if_neg (by omega)]
theorem odd_dvd {o c : Nat} : ∀ {n : Nat}, (2 * o + 1) * 2 ^ n % 2 ^ c = 0 → c ≤ n := by
  intro n h
  rcases Nat.lt_or_ge n c with hlt | hge
  · exfalso
    obtain ⟨d, rfl⟩ : ∃ d, c = n + 1 + d := ⟨c - n - 1, by omega⟩
    have h1 : 2 ^ (n + 1 + d) = 2 ^ n * (2 * 2 ^ d) := by rw [Nat.pow_add, Nat.pow_succ, Nat.mul_assoc]
    rw [h1, Nat.mul_comm (2 * o + 1), Nat.mul_mod_mul_left] at h
    have hp := Nat.two_pow_pos n
    have h2 : (2 * o + 1) % (2 * 2 ^ d) = 0 := by
      rcases Nat.mul_eq_zero.1 h with h | h
      · omega
      · exact h
    have h3 := Nat.mod_mul_right_mod (2 * o + 1) 2 (2 ^ d)
    rw [h2] at h3
    omega
  · exact hge
/-- What has noughts enough behind is packed as its quotient. -/
theorem Pack_div {size F E S : Nat} {L : Int} {I : Nat} (h : IsFmt size F E S L I) {m c : Nat} {e : Int} (h0 : 0 < m) (hm : m < 18446744073709551616) (he0 : -5000 ≤ e) (he1 : e ≤ 5000)
    (hr : m % 2 ^ c = 0) (hM : m / 2 ^ c < 2 ^ (F + 1)) (hX : L ≤ e + c) (hn : 2 ^ F ≤ m / 2 ^ c ∨ e + c = L) (neg : Bool) (k : Nat) :
    bits_Pack.f (k + 2) neg 2 (m : Int) e size = some (outb S I neg ((e + c - L).toNat * 2 ^ F + m / 2 ^ c)) := by
  obtain ⟨o, n, rfl, hz, hn64⟩ := odd_part h0 hm
  have hcn := odd_dvd hr
  obtain ⟨u, rfl⟩ : ∃ u, n = c + u := ⟨n - c, by omega⟩
  have hd : (2 * o + 1) * 2 ^ (c + u) / 2 ^ c = (2 * o + 1) * 2 ^ u := by
    rw [Nat.pow_add, ← Nat.mul_assoc, Nat.mul_right_comm, Nat.mul_div_cancel _ (Nat.two_pow_pos c)]
  rw [hd] at hM hn ⊢
  have hp := Pack_rep h hm hz hn64 he0 he1 (u := u) ⟨hM, by omega, by omega⟩ neg k
  rw [hp, show e + ((c + u : Nat) : Int) - (u : Int) = e + c by omega, outb_of h hM hX hn]
/-- What has a rest on the grid has no bits. -/
theorem Pack_rest {size F E S : Nat} {L : Int} {I : Nat} (h : IsFmt size F E S L I) {m : Nat} {e : Int} (h0 : 0 < m) (hm : m < 18446744073709551616) (he0 : -5000 ≤ e) (he1 : e ≤ 5000)
    (hl : e ≤ lastOf F L m e) (hr : m % 2 ^ (lastOf F L m e - e).toNat ≠ 0) (neg : Bool) (k : Nat) :
    bits_Pack.f (k + 2) neg 2 (m : Int) e size = some (0, some 4) := by
  obtain ⟨o, n, rfl, hz, hn64⟩ := odd_part h0 hm
  obtain ⟨b0, b1, b2⟩ := blen_spec _ _ rfl h0 hm
  unfold lastOf at hl hr
  generalize Lib.bitLen ((2 * o + 1) * 2 ^ n) = b at *
  have hnc : (n : Int) < max ((b : Int) - 1 + e - F) L - e := by
    rcases (by omega : (n : Int) < max ((b : Int) - 1 + e - F) L - e ∨ max ((b : Int) - 1 + e - F) L - e ≤ (n : Int)) with hlt | hge
    · exact hlt
    · exfalso; apply hr
      obtain ⟨u, hu⟩ : ∃ u, n = (max ((b : Int) - 1 + e - F) L - e).toNat + u := ⟨n - (max ((b : Int) - 1 + e - F) L - e).toNat, by omega⟩
      generalize (max ((b : Int) - 1 + e - F) L - e).toNat = c at *
      subst hu
      rw [Nat.pow_add, ← Nat.mul_assoc, Nat.mul_right_comm, Nat.mul_mod_left]
  refine Pack_none h hm hz hn64 he0 he1 ?_ neg k
  by_cases hc : e + n < L
  · exact .inr hc
  · left
    have hbn : F + 1 + n ≤ b - 1 := by omega
    have h1 : 2 ^ (F + 1 + n) ≤ 2 ^ (b - 1) := Nat.pow_le_pow_right (by decide) hbn
    rw [Nat.pow_add] at h1
    exact Nat.le_of_mul_le_mul_right (Nat.le_trans h1 b1) (Nat.two_pow_pos n)
theorem gridv_pos {F : Nat} {L : Int} {m : Nat} {e : Int} (h0 : 0 < m) (hm : m < 18446744073709551616) (hg : gridv m e (lastOf F L m e) = 0) : bitsv F L m e = 0 := by
  obtain ⟨g1, g2, _⟩ := gridv_bounds (F := F) (L := L) h0 hm e
  have hp := Nat.two_pow_pos F
  unfold bitsv
  rw [hg] at g2 ⊢
  have : lastOf F L m e = L := by omega
  rw [this, show (L - L).toNat = 0 by omega, Nat.zero_mul]
/-- Bits rounded: the infinity where they are too great. -/
def capv (S I : Nat) (neg : Bool) (b : Nat) : Nat := sgn S neg (if I ≤ b then I else b)
theorem rn_l0 (neg : Bool) (c1 c2 c3 : Int) (k : Nat) : ∀ (t m : Nat) (e : Int) (st : Bool), m < 18446744073709551616 → -10000 ≤ e → e + t ≤ 10000 → (t = 0 ∨ 2 ^ (24 + t) ≤ m ∨ (2 ^ (t - 1) ≤ m ∧ e + t ≤ -150)) →
    numeralref11_Narrow.l0 (k + t) (m : Int) e st neg c1 c2 c3 = numeralref11_Narrow.l0 k ((m / 2 ^ t : Nat) : Int) (e + t) (st || decide (m % 2 ^ t ≠ 0)) neg c1 c2 c3
  | 0, m, e, st, hm, h1, h2, hc => by
    rw [Nat.pow_zero, Nat.mod_one, Nat.div_one, show e + ((0 : Nat) : Int) = e by omega, show decide ((0 : Nat) ≠ 0) = false from rfl, Bool.or_false]
    rfl
  | t + 1, m, e, st, hm, h1, h2, hc => by
    have hp := Nat.two_pow_pos t
    have e24 : 2 ^ (24 + (t + 1)) = 2 ^ (24 + t) * 2 := Nat.pow_succ ..
    have h25 : 2 ^ (24 + (t + 1)) = 2 ^ 25 * 2 ^ t := by rw [show 24 + (t + 1) = 25 + t by omega, Nat.pow_add]
    have hnext : t = 0 ∨ 2 ^ (24 + t) ≤ m / 2 ∨ (2 ^ (t - 1) ≤ m / 2 ∧ e + 1 + t ≤ -150) := by
      rcases Nat.eq_zero_or_pos t with h | h
      · exact .inl h
      · right
        rcases hc with h0 | h3 | ⟨h3, h4⟩
        · omega
        · left; omega
        · right
          rw [show t + 1 - 1 = (t - 1) + 1 by omega, Nat.pow_succ] at h3
          exact ⟨by omega, by omega⟩
    have ih := rn_l0 neg c1 c2 c3 k t (m / 2) (e + 1) (st || decide (m % 2 ≠ 0)) (by omega) (by omega) (by omega) hnext
    have e1 : m / 2 / 2 ^ t = m / 2 ^ (t + 1) := by rw [Nat.div_div_eq_div_mul, Nat.pow_succ, Nat.mul_comm]
    have e2 : (st || decide (m % 2 ≠ 0) || decide (m / 2 % 2 ^ t ≠ 0)) = (st || decide (m % 2 ^ (t + 1) ≠ 0)) := by
      rw [Bool.or_assoc]; congr 1
      have : m % 2 ^ (t + 1) = m % 2 + 2 * (m / 2 % 2 ^ t) := by rw [Nat.pow_succ, Nat.mul_comm, Nat.mod_mul]
      rw [this, ← Bool.decide_or]
      apply decide_eq_decide.2; omega
    rw [e1, e2, show e + 1 + (t : Int) = e + ((t + 1 : Nat) : Int) by omega] at ih
    have hst : ((Go.bits .and .u64 (m : Int) 1) == 1) = decide (m % 2 ≠ 0) := by
      rw [and_one hm, Bool.eq_iff_iff, beq_iff_eq, decide_eq_true_iff]; omega
    have hbody : (if st = true then (numeralref11_Narrow.l0 (k + t) ((m : Int) / 2) (wrap64 (e + 1)) true neg c1 c2 c3) else (numeralref11_Narrow.l0 (k + t) ((m : Int) / 2) (wrap64 (e + 1)) ((Go.bits .and .u64 (m : Int) 1) == 1) neg c1 c2 c3)) = numeralref11_Narrow.l0 k ((m / 2 ^ (t + 1) : Nat) : Int) (e + ((t + 1 : Nat) : Int)) (st || decide (m % 2 ^ (t + 1) ≠ 0)) neg c1 c2 c3 := by
      rw [wrapi_id (n := e + 1) (by omega) (by omega), hst, show (m : Int) / 2 = ((m / 2 : Nat) : Int) by omega, ← ih]
      cases st
      · rw [if_neg (by decide), Bool.false_or]
      · rw [if_pos rfl, Bool.true_or]
    rw [show k + (t + 1) = (k + t) + 1 by omega, numeralref11_Narrow.l0]
    by_cases hz : (m : Int) / 33554432 = 0
    · have hm25 : m < 2 ^ 25 := by omega
      have h3 : 2 ^ t ≤ m ∧ e + ((t + 1 : Nat) : Int) ≤ -150 := by
        rcases hc with h0 | h3 | h3
        · omega
        · exfalso
          have := Nat.le_mul_of_pos_right (2 ^ 25) hp
          omega
        · exact h3
      rw [if_pos hz, if_neg (by omega), if_pos (by omega), hbody]
    · rw [if_neg hz, hbody]
theorem rn_stop (neg : Bool) (c1 c2 c3 : Int) (k m : Nat) (e : Int) (st : Bool) (h1 : m < 2 ^ 25) (h2 : m = 0 ∨ -150 ≤ e) :
    numeralref11_Narrow.l0 (k + 1) (m : Int) e st neg c1 c2 c3 = numeralref11_Narrow.j1 k (m : Int) e st neg c1 c2 c3 := by
  rw [numeralref11_Narrow.l0, if_pos (by omega)]
  by_cases h0 : m = 0
  · rw [if_pos (by omega)]
  · rw [if_neg (by omega), if_neg (by omega)]
theorem rn_zero (neg : Bool) (c1 c2 c3 : Int) (k : Nat) (e : Int) (same : Bool) : numeralref11_Narrow.j3 (k + 1) 0 e same neg c1 c2 c3 = some (((sgn 31 neg 0 : Nat) : Int), false) := by
  have hS : numeralref11_Signed.f neg 0 32 = some (((if neg then 0 + 2 ^ 31 else 0 : Nat) : Int)) := Signed_ok fmt32 neg (x := 0) (by decide)
  rw [numeralref11_Narrow.j3, if_pos rfl, bind_eq hS]
  rfl
theorem rn_j2 (neg : Bool) (c1 c2 c3 : Int) (k m : Nat) (hm : m < 2 ^ 25) (e : Int) (st : Bool) (he0 : -10000 ≤ e) (he1 : e ≤ 10000) :
    numeralref11_Narrow.j2 (k + 1) (m : Int) e st (!st) true neg c1 c2 c3 = numeralref11_Narrow.j3 k ((if m % 2 = 1 ∧ (st = true ∨ m / 2 % 2 = 1) then m / 2 + 1 else m / 2 : Nat) : Int) (e + 1) (!st && decide (m % 2 = 0)) neg c1 c2 c3 := by
  have h1 := and_one (a := m) (by omega)
  have h2 := and_one (a := m / 2) (by omega)
  have ed : (m : Int) / 2 = ((m / 2 : Nat) : Int) := by omega
  have hq : ∀ b : Bool, b = (!(((m % 2 : Nat) : Int) == 1)) → b = decide (m % 2 = 0) := by
    intro b hb; rw [hb, Bool.eq_iff_iff]; simp only [Bool.not_eq_true', beq_eq_false_iff_ne, decide_eq_true_iff]; omega
  rw [numeralref11_Narrow.j2, if_pos rfl, wrapi_id (n := e + 1) (by omega) (by omega), h1, ed, h2, wrapu_id (n := ((m / 2 : Nat) : Int) + 1) (by omega) (by omega), hq _ rfl, show ((m / 2 : Nat) : Int) + 1 = ((m / 2 + 1 : Nat) : Int) by omega]
  cases st
  · rw [if_pos (show (!false) = true from rfl)]
    rcases Nat.mod_two_eq_zero_or_one m with h | h
    · rw [if_neg (by omega), if_neg (by omega)]; rfl
    · rw [if_pos (by omega), if_neg (by decide)]
      by_cases h3 : m / 2 % 2 = 1
      · rw [if_pos (by omega), if_pos ⟨h, .inr h3⟩]; rfl
      · rw [if_neg (by omega), if_neg (by simp [h3])]; rfl
  · rw [if_neg (show ¬ (!true) = true by decide)]
    rcases Nat.mod_two_eq_zero_or_one m with h | h
    · rw [if_neg (by omega), if_neg (by omega)]; rfl
    · rw [if_pos (by omega), if_pos rfl, if_pos ⟨h, .inl rfl⟩]; rfl
theorem rn_j1 (neg : Bool) (c1 c2 c3 : Int) (k m : Nat) (e : Int) (st : Bool) (h : e = -150 ∨ 2 ^ 24 ≤ m) :
    numeralref11_Narrow.j1 (k + 1) (m : Int) e st neg c1 c2 c3 = numeralref11_Narrow.j2 k (m : Int) e st (!st) true neg c1 c2 c3 := by
  rw [numeralref11_Narrow.j1]
  by_cases h1 : e = -150
  · rw [if_pos h1]
  · rw [if_neg h1]
    have : (((m : Int) / 16777216) != 0) = true := by rw [bne_iff_ne]; omega
    rw [this]
theorem rn_j1_zero (neg : Bool) (c1 c2 c3 : Int) (k : Nat) (e : Int) (he0 : -10000 ≤ e) (he1 : e ≤ 10000) : numeralref11_Narrow.j1 (k + 3) 0 e true neg c1 c2 c3 = some (((sgn 31 neg 0 : Nat) : Int), false) := by
  by_cases h1 : e = -150
  · have hj := rn_j1 neg c1 c2 c3 (k + 2) 0 e true (.inl h1)
    have hj2 := rn_j2 neg c1 c2 c3 (k + 1) 0 (by decide) e true he0 he1
    have e0 : ((0 : Nat) : Int) = 0 := rfl
    rw [e0] at hj hj2
    rw [hj, hj2]
    exact rn_zero neg c1 c2 c3 k _ _
  · rw [numeralref11_Narrow.j1, if_neg h1]
    have e1 : (((0 : Int) / 16777216) != 0) = false := by decide
    rw [e1, numeralref11_Narrow.j2, if_neg (by decide)]
    exact rn_zero neg c1 c2 c3 k _ _
/-- The reference's narrowing of a fine float. -/
theorem rNarrow_fine (neg : Bool) (c1 c2 c3 : Int) {M : Nat} {X : Int} (h0 : 0 < M) (hM : M < 2 ^ 53) (hX : -1074 ≤ X) (hX2 : X ≤ 2000) (hn : 2 ^ 52 ≤ M ∨ X = -1074) (k : Nat) :
    numeralref11_Narrow.l0 (k + 300) (M : Int) X false neg c1 c2 c3 = some (((capv 31 2139095040 neg (bitsv 23 (-149) M X) : Nat) : Int), decide (M % 2 ^ (lastOf 23 (-149) M X - X).toNat = 0) && decide (bitsv 23 (-149) M X < 2139095040)) := by
  obtain ⟨b0, b1, b2⟩ := blen_spec _ M rfl h0 (by omega)
  have hb53 : Lib.bitLen M ≤ 53 := Lib.bitLen_le M 53 (by decide) hM
  have hbn : 2 ^ 52 ≤ M → Lib.bitLen M = 53 := by
    intro h
    rcases Nat.lt_or_ge (Lib.bitLen M) 53 with hlt | hge
    · exfalso
      have : 2 ^ Lib.bitLen M ≤ 2 ^ 52 := Nat.pow_le_pow_right (by decide) (by omega)
      omega
    · omega
  have hgp := gridv_pos (F := 23) (L := -149) (e := X) h0 (by omega)
  have hPg : 0 < gridv M X (lastOf 23 (-149) M X) → lastOf 23 (-149) M X ≤ 4900 → ∀ k, bits_Pack.f (k + 2) neg 2 ((gridv M X (lastOf 23 (-149) M X) : Nat) : Int) (lastOf 23 (-149) M X) 32 = some (outb 31 2139095040 neg (bitsv 23 (-149) M X)) := fun a b k => Pack_grid fmt32 h0 (by omega) a b neg k
  have hl : lastOf 23 (-149) M X = max ((Lib.bitLen M : Int) - 1 + X - 23) (-149) := rfl
  have hgv : X < lastOf 23 (-149) M X → gridv M X (lastOf 23 (-149) M X) = rhe M (lastOf 23 (-149) M X - X).toNat := fun hlt => by unfold gridv; rw [if_neg (by omega)]
  generalize hlg : lastOf 23 (-149) M X = l at *
  generalize hbb : bitsv 23 (-149) M X = b at *
  generalize Lib.bitLen M = s at *
  have hXl : X + 29 ≤ l := by
    rcases hn with h | h
    · have := hbn h; omega
    · omega
  obtain ⟨t, ht⟩ : ∃ t : Nat, l = X + t + 1 := ⟨(l - X - 1).toNat, by omega⟩
  have hc : (l - X).toNat = t + 1 := by omega
  rw [hc] at hgv ⊢
  have hgv := hgv (by omega)
  rcases Nat.lt_or_ge t 53 with hlt | hge
  · -- the place is within
    have hbig : 2 ^ 52 ≤ M := by
      rcases hn with h | h
      · exact h
      · omega
    have hs := hbn hbig
    have ht28 : 28 ≤ t := by omega
    have hcond : t = 0 ∨ 2 ^ (24 + t) ≤ M ∨ (2 ^ (t - 1) ≤ M ∧ X + t ≤ -150) := by
      right
      by_cases h28 : t = 28
      · left; rw [h28]; exact hbig
      · right
        refine ⟨Nat.le_trans (Nat.pow_le_pow_right (by decide) (by omega)) hbig, by omega⟩
    have hp : 2 ^ 28 ≤ 2 ^ t := Nat.pow_le_pow_right (by decide) ht28
    have hm1 : M / 2 ^ t < 2 ^ 25 := by
      rw [Nat.div_lt_iff_lt_mul (Nat.two_pow_pos t)]
      have := Nat.mul_le_mul_left (2 ^ 25) hp
      omega
    have hgt : X + (t : Int) = -150 ∨ 2 ^ 24 ≤ M / 2 ^ t := by
      by_cases h28 : t = 28
      · right; rw [h28]; omega
      · left; omega
    rw [show k + 300 = (k + 299 - t + 1) + t by omega, rn_l0 neg c1 c2 c3 (k + 299 - t + 1) t M X false (by omega) (by omega) (by omega) hcond, rn_stop neg c1 c2 c3 _ _ _ _ hm1 (.inr (by omega)), show k + 299 - t = (k + 297 - t + 1) + 1 by omega, rn_j1 neg c1 c2 c3 _ _ _ _ hgt, rn_j2 neg c1 c2 c3 _ _ hm1 _ _ (by omega) (by omega)]
    have hst : (false || decide (M % 2 ^ t ≠ 0)) = decide (M % 2 ^ t ≠ 0) := Bool.false_or _
    have hrhe : (if M / 2 ^ t % 2 = 1 ∧ ((false || decide (M % 2 ^ t ≠ 0)) = true ∨ M / 2 ^ t / 2 % 2 = 1) then M / 2 ^ t / 2 + 1 else M / 2 ^ t / 2) = gridv M X l := by
      rw [hgv, rhe_step, hst]; simp only [decide_eq_true_iff]
    have hsame : (!(false || decide (M % 2 ^ t ≠ 0)) && decide (M / 2 ^ t % 2 = 0)) = decide (M % 2 ^ (t + 1) = 0) := by
      rw [hst, mod_succ, Bool.eq_iff_iff]
      simp only [Bool.and_eq_true, Bool.not_eq_true', decide_eq_false_iff_not, decide_eq_true_iff]
      have := Nat.two_pow_pos t
      rcases Nat.mod_two_eq_zero_or_one (M / 2 ^ t) with h | h <;> rw [h] <;> omega
    rw [hrhe, hsame, show X + (t : Int) + 1 = l by omega]
    rcases Nat.eq_zero_or_pos (gridv M X l) with hg | hg
    · have hb := hgp hg
      have hrest : ¬ M % 2 ^ (t + 1) = 0 := by
        intro hr
        have h1 := rhe_exact hr
        rw [← hgv, hg] at h1
        have := Nat.div_add_mod M (2 ^ (t + 1))
        rw [← h1, hr] at this; omega
      rw [hg, show k + 297 - t = (k + 296 - t) + 1 by omega]
      have e0 : ((0 : Nat) : Int) = 0 := rfl
      rw [e0, rn_zero, hb, decide_eq_false hrest]
      rfl
    · obtain ⟨r, hr1, hr2⟩ := Pack_both fmt32 hg (by have := (gridv_bounds (F := 23) (L := -149) h0 (by omega) X).1; rw [hlg] at this; omega : gridv M X l < 18446744073709551616) l neg (k + 96 - t)
      have hP := hPg hg (by omega) (k + 294 - t)
      have e32 : ((32 : Nat) : Int) = 32 := rfl
      rw [e32] at hr1 hr2
      rw [show k + 96 - t + 200 = k + 296 - t by omega] at hr1 hr2
      rw [show k + 294 - t + 2 = k + 296 - t by omega, hr1] at hP
      have hP := Option.some.inj hP
      rw [show k + 297 - t = (k + 296 - t) + 1 by omega, numeralref11_Narrow.j3, if_neg (by omega), bind_eq hr2]
      unfold outb at hP
      unfold capv
      by_cases hI : 2139095040 ≤ b
      · rw [if_pos hI] at hP
        have h4 : r.2 ≠ 0 := by
          intro h
          have this : errv r.2 = some 4 := congrArg Prod.snd hP
          rw [h] at this
          exact absurd this (by decide)
        have hinf : numeralref11_inf.f 32 = some (((2139095040 : Nat)) : Int) := rinf_ok fmt32
        have hsg : numeralref11_Signed.f neg ((2139095040 : Nat) : Int) 32 = some (((if neg then 2139095040 + 2 ^ 31 else 2139095040 : Nat) : Int)) := Signed_ok fmt32 neg (by decide)
        rw [if_neg h4, bind_eq hinf, bind_eq hsg, if_pos hI, decide_eq_false (by omega : ¬ b < 2139095040), Bool.and_false]
        rfl
      · rw [if_neg hI] at hP
        have h4 : r.2 = 0 := by
          have h5 := congrArg Prod.snd hP
          unfold errv at h5
          by_cases h : r.2 = 0
          · exact h
          · rw [if_neg h] at h5; cases h5
        have h6 : r.1 = ((sgn 31 neg b : Nat) : Int) := congrArg Prod.fst hP
        rw [if_pos h4, h6, if_neg hI, decide_eq_true (by omega : b < 2139095040), Bool.and_true]
  · -- all of it goes
    have hs1 : 2 ^ (s - 1) ≤ M := b1
    have hdiv : M / 2 ^ s = 0 := Nat.div_eq_of_lt b2
    have hmod : M % 2 ^ s = M := Nat.mod_eq_of_lt b2
    have hp2 : 2 ^ 54 ≤ 2 ^ (t + 1) := Nat.pow_le_pow_right (by decide) (by omega)
    have hg : gridv M X l = 0 := by rw [hgv]; exact rhe_small (by omega)
    have hb := hgp hg
    have hrest : ¬ M % 2 ^ (t + 1) = 0 := by rw [Nat.mod_eq_of_lt (by omega)]; omega
    rw [show k + 300 = (k + 299 - s + 1) + s by omega, rn_l0 neg c1 c2 c3 (k + 299 - s + 1) s M X false (by omega) (by omega) (by omega) (.inr (.inr ⟨hs1, by omega⟩)), hdiv, hmod, decide_eq_true (by omega : M ≠ 0), rn_stop neg c1 c2 c3 _ _ _ _ (by decide) (.inl rfl), show k + 299 - s = (k + 296 - s) + 3 by omega]
    have e0 : ((0 : Nat) : Int) = 0 := rfl
    rw [e0, Bool.or_true, rn_j1_zero neg c1 c2 c3 _ _ (by omega) (by omega), hb, decide_eq_false hrest]
    rfl
end Go.Proofs.YtdddkkojgepnmaaDoor.XcB
