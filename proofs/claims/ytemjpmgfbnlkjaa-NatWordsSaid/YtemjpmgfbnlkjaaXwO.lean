
/- The reference's quotients, bit by bit. -/
import Derived.Test.YtemjpmgfbnlkjaaXwE
import Derived.Test.YtemjpmgfbnlkjaaXwx5
import Derived.Test.YtemjpmgfbnlkjaaXwx8
namespace Go.Proofs.Ytemjpmgfbnlkjaa.XwB
open Go.RowKit Go.Proofs.Ytemjpmgfbnlkjaa.Xw Go.Proofs.Ytemjpmgfbnlkjaa.A Go.Proofs.Ytemjpmgfbnlkjaa.L Go.Proofs.YtemjpmgfbnlkjaaW.PrintWords Go.Proofs.YtemjpmgfbnlkjaaW.PrintLast Go.Proofs.YtemjpmgfbnlkjaaW.PrintMore
set_option linter.unusedSimpArgs false
set_option linter.unusedVariables false
theorem or_u32 (a b : Nat) (ha : a < 4294967296) (hb : b < 4294967296) : Go.bits .or .u32 (a : Int) (b : Int) = ((a ||| b : Nat) : Int) := by
  have hx : a ||| b < 2 ^ 32 := Nat.or_lt_two_pow (by omega) (by omega)
  have h1 : (BitVec.ofInt 32 (a : Int)).toNat = a := by
    rw [BitVec.ofInt_natCast, BitVec.toNat_ofNat]; exact Nat.mod_eq_of_lt (by omega)
  have h2 : (BitVec.ofInt 32 (b : Int)).toNat = b := by
    rw [BitVec.ofInt_natCast, BitVec.toNat_ofNat]; exact Nat.mod_eq_of_lt (by omega)
  show IntKind.u32.wrap ((BitVec.ofInt 32 (a : Int) ||| BitVec.ofInt 32 (b : Int)).toNat : Int) = _
  rw [BitVec.toNat_or, h1, h2]
  simp [IntKind.wrap, IntKind.signed, IntKind.bits]
  omega
theorem shl1_u32 (r : Nat) (h : r < 32) : shl .u32 1 (r : Int) = ((2 ^ r : Nat) : Int) := by
  have h1 : 2 ^ r < 2 ^ 32 := Nat.pow_lt_pow_right (by decide) h
  unfold shl
  have e : min (r : Int).toNat IntKind.u32.bits = r := by simp [IntKind.bits]; omega
  have e2 : (1 : Int) * 2 ^ r = ((2 ^ r : Nat) : Int) := by rw [Int.one_mul, Int.natCast_pow]; rfl
  rw [e, e2]
  generalize 2 ^ r = z at *
  have h3 : z < 4294967296 := h1
  simp [IntKind.wrap, IntKind.signed, IntKind.bits]
  omega
theorem dig_val {B : Nat} (hB : 0 < B) {l : List Int} (h : okl B l) (j : Nat) : (l.getD j 0).toNat = nv B l / B ^ j % B := by
  have hp : 0 < B ^ j := Nat.pow_pos hB
  rcases Nat.lt_or_ge j l.length with hj | hj
  · have h1 := nv_take_drop B l j (by omega)
    have h2 := nv_lt hB (okl_take h j)
    rw [List.length_take, Nat.min_eq_left (by omega)] at h2
    rw [h1, Nat.add_mul_div_left _ _ hp, Nat.div_eq_of_lt h2, Nat.zero_add, drop_get hj, nv, Nat.add_mul_mod_self_left]
    have := okl_get h j hB
    rw [Nat.mod_eq_of_lt (by omega)]
  · have h0 : l.getD j 0 = 0 := by simp [List.getD, hj]
    have h2 := nv_lt hB h
    have h3 : B ^ l.length ≤ B ^ j := Nat.pow_le_pow_right hB hj
    rw [h0, Nat.div_eq_of_lt (by omega), Nat.zero_mod]; rfl
/-- The bit i set, where the lowest bits up to it are 0. -/
theorem set_bit {q : List Int} (ho : okl B32 q) {i : Nat} (hi : i / 32 < q.length) (hz : nv B32 q % 2 ^ (i + 1) = 0) :
    ∃ w : Nat, rd q ((i / 32 : Nat) : Int) = (w : Int) ∧ Go.bits .or .u32 (w : Int) ((2 ^ (i % 32) : Nat) : Int) = ((w + 2 ^ (i % 32) : Nat) : Int) ∧ okl B32 (q.set (i / 32) ((w + 2 ^ (i % 32) : Nat) : Int)) ∧ nv B32 (q.set (i / 32) ((w + 2 ^ (i % 32) : Nat) : Int)) = nv B32 q + 2 ^ i := by
  obtain ⟨w, hw, hwB, hwn⟩ := dig_at ho b32_pos (i / 32)
  have hwB' : w < 4294967296 := hwB
  have hr : i % 32 + 1 ≤ 32 := by omega
  have e32 : B32 = 2 ^ 32 := rfl
  have hpow : B32 ^ (i / 32) = 2 ^ (32 * (i / 32)) := by rw [e32, ← Nat.pow_mul]
  have hsplit : 2 ^ (i + 1) = 2 ^ (i % 32 + 1) * 2 ^ (32 * (i / 32)) := by rw [← Nat.pow_add]; congr 1; omega
  obtain ⟨t, ht⟩ : ∃ t, nv B32 q = 2 ^ (i + 1) * t := ⟨nv B32 q / 2 ^ (i + 1), by have := Nat.div_add_mod (nv B32 q) (2 ^ (i + 1)); omega⟩
  have hval := dig_val b32_pos ho (i / 32)
  rw [hwn, ht, hpow, hsplit, Nat.mul_right_comm, Nat.mul_div_cancel _ (Nat.two_pow_pos _)] at hval
  have hw0 : w % 2 ^ (i % 32 + 1) = 0 := by
    rw [hval, e32, Nat.mod_mod_of_dvd _ (Nat.pow_dvd_pow 2 hr), Nat.mul_mod_right]
  obtain ⟨s, hs⟩ : ∃ s, w = 2 ^ (i % 32 + 1) * s := ⟨w / 2 ^ (i % 32 + 1), by have := Nat.div_add_mod w (2 ^ (i % 32 + 1)); omega⟩
  have hlt : 2 ^ (i % 32) < 2 ^ (i % 32 + 1) := Nat.pow_lt_pow_right (by decide) (by omega)
  have hor : w ||| 2 ^ (i % 32) = w + 2 ^ (i % 32) := by rw [hs, Nat.two_pow_add_eq_or_of_lt hlt]
  have h32 : 2 ^ (i % 32) < 4294967296 := by
    have : 2 ^ (i % 32) ≤ 2 ^ 31 := Nat.pow_le_pow_right (by decide) (by omega)
    omega
  have hfit : w + 2 ^ (i % 32) < 4294967296 := by
    rw [← hor]; exact Nat.or_lt_two_pow (n := 32) hwB' h32
  refine ⟨w, hw, by rw [or_u32 w _ hwB' h32, hor], okl_set ho _ ⟨by omega, by show _ < ((4294967296 : Nat) : Int); omega⟩, ?_⟩
  have h1 := nv_set B32 (l := q) (i := i / 32) ((w + 2 ^ (i % 32) : Nat) : Int) hi
  rw [hwn, Int.toNat_natCast, Nat.mul_add] at h1
  have h2 : B32 ^ (i / 32) * 2 ^ (i % 32) = 2 ^ i := by rw [hpow, ← Nat.pow_add]; congr 1; omega
  omega
theorem cmpn_ge (a b : Nat) : cmpn a b ≥ 0 ↔ b ≤ a := by
  have := cmpn_neg a b
  omega
theorem over_l0 {a b : List Int} (ha : okl B32 a) (la : a.length ≤ 300) (hb : 0 < nv B32 b) : ∀ (j k : Nat) (q d rest : List Int), j ≤ 10000 → j + 40000 ≤ k → okl B32 q → (∀ i, i < j → i / 32 < q.length) → q.length ≤ 1000 → nv B32 q % 2 ^ j = 0 → okl B32 d → top d → d.length ≤ 1000 → (∀ i, j = i + 1 → nv B32 d = nv B32 b * 2 ^ i) →
    okl B32 rest → top rest → nv B32 rest < nv B32 b * 2 ^ j → nv B32 q * nv B32 b + nv B32 rest = nv B32 a →
    ∃ t r, numeralref02_Over.l0 k q d rest ((j : Int) - 1) = some (t, r) ∧ okl B32 t ∧ top t ∧ okl B32 r ∧ top r ∧ nv B32 t * nv B32 b + nv B32 r = nv B32 a ∧ nv B32 r < nv B32 b ∧ t.length ≤ 1000
  | 0, k + 1, q, d, rest, hj, hk, hq, hql, hqn, hqz, hd, htd, hdl, hdv, hr, htr, hrb, hv => by
    obtain ⟨m, m1, m2, m3, m4⟩ := rtrim_ok (l := q) (by omega) (k := k) (by omega)
    refine ⟨q.take m, rest, ?_, okl_take hq m, m3, hr, htr, by rw [m4]; exact hv, by rw [Nat.pow_zero, Nat.mul_one] at hrb; exact hrb, by rw [List.length_take]; omega⟩
    rw [numeralref02_Over.l0, if_neg (by omega), bind_eq m2]
  | i + 1, k + 1, q, d, rest, hj, hk, hq, hql, hqn, hqz, hd, htd, hdl, hdv, hr, htr, hrb, hv => by
    have hdv' := hdv i rfl
    have hlr := len_le_of_nv b32_one ha hr htr (by omega)
    have hcmp := rcmp_ok b32_one hr hd htr htd (by omega) (by omega) (k := k) (by omega)
    obtain ⟨e, e1, e2, e3, e4, e5⟩ := down_ok hd (by omega) (k := k) (by omega)
    have hev : ∀ i', i = i' + 1 → nv B32 e = nv B32 b * 2 ^ i' := by
      rintro i' rfl
      rw [e4, hdv', Nat.pow_succ, ← Nat.mul_assoc, Nat.mul_div_cancel _ (by decide)]
    have hqz' : nv B32 q % 2 ^ i = 0 := by
      have h1 : 2 ^ i ∣ 2 ^ (i + 1) := Nat.pow_dvd_pow 2 (by omega)
      rw [← Nat.mod_mod_of_dvd _ h1, hqz, Nat.zero_mod]
    rw [Nat.pow_succ, ← Nat.mul_assoc] at hrb
    rw [numeralref02_Over.l0, show ((i + 1 : Nat) : Int) - 1 = (i : Int) by omega, if_pos (by omega), bind_eq hcmp, tdiv32, tmod32, wrapi_id (n := ((i / 32 : Nat) : Int)) (by omega) (by omega), wrapu_id (n := ((i % 32 : Nat) : Int)) (by omega) (by omega), wrapi_id (n := (i : Int) - 1) (by omega) (by omega)]
    by_cases hge : nv B32 d ≤ nv B32 rest
    · obtain ⟨p, p1, p2, p3, p4, p5⟩ := minus_ok hr hd (by omega) htd hge (k := k) (by omega)
      obtain ⟨w, w1, w2, w3, w4⟩ := set_bit hq (hql i (by omega)) hqz
      have hv2 : nv B32 (q.set (i / 32) ((w + 2 ^ (i % 32) : Nat) : Int)) * nv B32 b + nv B32 p = nv B32 a := by
        rw [w4, Nat.add_mul, Nat.mul_comm (2 ^ i)]; omega
      have hz2 : nv B32 (q.set (i / 32) ((w + 2 ^ (i % 32) : Nat) : Int)) % 2 ^ i = 0 := by
        rw [w4, Nat.add_mod_right]; exact hqz'
      obtain ⟨t, r, o1, o2⟩ := over_l0 ha la hb i k _ e p (by omega) (by omega) w3 (fun i' h' => by rw [List.length_set]; exact hql i' (by omega)) (by rw [List.length_set]; exact hqn) hz2 e2 e3 (by omega) hev p2 p3 (by omega) hv2
      refine ⟨t, r, ?_, o2⟩
      have hq1 := hql i (by omega)
      rw [if_pos ((cmpn_ge _ _).2 hge), bind_eq p1, if_pos (by omega), if_pos (by omega), if_pos (by omega), bind_eq e1, Int.toNat_natCast, w1, shl1_u32 (i % 32) (by omega), w2]
      exact o1
    · obtain ⟨t, r, o1, o2⟩ := over_l0 ha la hb i k q e rest (by omega) (by omega) hq (fun i' h' => hql i' (by omega)) hqn hqz' e2 e3 (by omega) hev hr htr (by omega) hv
      refine ⟨t, r, ?_, o2⟩
      rw [if_neg (fun h => hge ((cmpn_ge _ _).1 h)), bind_eq e1]
      exact o1
theorem over_ok {a b : List Int} (ha : okl B32 a) (hb : okl B32 b) (ta : top a) (tb : top b) (la : a.length ≤ 300) (lb : b.length ≤ 300) (h0 : 0 < nv B32 b) {k : Nat} (hk : 60000 ≤ k) :
    ∃ t r, numeralref02_Over.f k a b = some (t, r) ∧ okl B32 t ∧ top t ∧ okl B32 r ∧ top r ∧ nv B32 t * nv B32 b + nv B32 r = nv B32 a ∧ nv B32 r < nv B32 b ∧ t.length ≤ 1000 := by
  obtain ⟨La, x1, x2, x3⟩ := len_ok ha ta (by omega) (k := k) (by omega)
  obtain ⟨Lb, y1, y2, y3⟩ := len_ok hb tb (by omega) (k := k) (by omega)
  obtain ⟨z1, z2⟩ := y2.2.1 h0
  unfold numeralref02_Over.f
  rw [bind_eq x1, bind_eq y1, wrapi_id (n := (La : Int) - (Lb : Int)) (by omega) (by omega)]
  by_cases hlt : La < Lb
  · rw [if_pos (by omega)]
    have h1 : 2 ^ La ≤ 2 ^ (Lb - 1) := Nat.pow_le_pow_right (by decide) (by omega)
    have h2 := x2.1
    exact ⟨[], a, rfl, okl_nil _, top_nil, ha, ta, by simp [nv], by omega, by simp⟩
  · obtain ⟨n, hn⟩ : ∃ n, La = Lb + n := ⟨La - Lb, by omega⟩
    obtain ⟨d, d1, d2, d3, d4, d5⟩ := up_ok hb (by omega) (n := n) (by omega) (k := k) (by omega)
    have hrb : nv B32 a < nv B32 b * 2 ^ (n + 1) := by
      have h2 := x2.1
      have h3 : 2 ^ La = 2 ^ (Lb - 1) * 2 ^ (n + 1) := by rw [← Nat.pow_add]; congr 1; omega
      have h4 := Nat.mul_le_mul_right (2 ^ (n + 1)) z2
      omega
    obtain ⟨t, r, o1, o2⟩ := over_l0 ha la h0 (n + 1) k (List.replicate (n / 32 + 1) 0) d a (by omega) (by omega) (okl_zeros _ _ b32_pos) (fun i hi => by simp; omega) (by simp; omega) (by rw [nv_zeros, Nat.zero_mod]) d2 d3 (by omega) (fun i hi => by rw [d4, Nat.mul_comm]; congr 2; omega) ha ta hrb (by rw [nv_zeros]; omega)
    refine ⟨t, r, ?_, o2⟩
    rw [if_neg (by omega), show (La : Int) - (Lb : Int) = (n : Int) by omega, tdiv32, wrapi_id (n := ((n / 32 : Nat) : Int)) (by omega) (by omega), wrapi_id (n := ((n / 32 : Nat) : Int) + 1) (by omega) (by omega), if_pos (by omega), if_pos (by omega), bind_eq d1, show (((n / 32 : Nat) : Int) + 1).toNat = n / 32 + 1 by omega]
    rw [show ((n + 1 : Nat) : Int) - 1 = (n : Int) by omega] at o1
    exact o1
/-- The reference's quotient and what is left, in words. -/
theorem rDiv_ok {a b : List Int} (ha : okl B64 a) (hb : okl B64 b) (hv : vtwo a b = 0) (hne : b ≠ []) {k : Nat} (hk : 60000 ≤ k) :
    ∃ t r, numeralref02_Div.f k a b = some (t, r, 0) ∧ okl B64 t ∧ top t ∧ okl B64 r ∧ top r ∧ nv B64 t * nv B64 b + nv B64 r = nv B64 a ∧ nv B64 r < nv B64 b ∧ t.length ≤ 128 ∧ r.length ≤ 128 := by
  obtain ⟨⟨la, ta⟩, lb, tb⟩ := vtwo_zero hv
  have hb0 : 0 < nv B64 b := by
    rcases Nat.eq_zero_or_pos (nv B64 b) with h | h
    · exact absurd ((nv_eq_zero b64_one hb tb).1 h) hne
    · exact h
  obtain ⟨p, p1, p2, p3, p4, p5⟩ := of_ok ha la (k := k) (by omega)
  obtain ⟨q, q1, q2, q3, q4, q5⟩ := of_ok hb lb (k := k) (by omega)
  obtain ⟨t, r, o1, o2, o3, o4, o5, o6, o7, o8⟩ := over_ok p2 q2 p3 q3 (by omega) (by omega) (by omega) hk
  have htp : nv B32 t ≤ nv B32 p := by
    have := Nat.le_mul_of_pos_right (nv B32 t) (show 0 < nv B32 q by omega)
    omega
  have hlt := len_le_of_nv b32_one p2 o2 o3 htp
  have hlr := len_le_of_nv b32_one p2 o4 o5 (by omega)
  obtain ⟨u, u1, u2, u3, u4⟩ := words_ok o2 o3 (by omega) (k := k) (by omega)
  obtain ⟨v, v1, v2, v3, v4⟩ := words_ok o4 o5 (by omega) (k := k) (by omega)
  have hlu := len_le_of_nv b64_one ha u1 u2 (by omega)
  have hlv := len_le_of_nv b64_one ha v1 v2 (by omega)
  rw [if_neg (by omega)] at u4 v4
  have htwo : numeralref02_two.f a b = some 0 := by rw [two_ok (by omega) (by omega), hv]
  have hbl : b.length ≠ 0 := fun h => hne (List.length_eq_zero_iff.1 h)
  refine ⟨u, v, ?_, u1, u2, v1, v2, by rw [u3, v3, ← p4, ← q4]; exact o6, by omega, by omega, by omega⟩
  unfold numeralref02_Div.f
  rw [bind_eq htwo, if_pos rfl, if_neg (by omega), bind_eq p1, bind_eq q1, bind_eq o1, bind_eq u4, bind_eq v4]
end Go.Proofs.Ytemjpmgfbnlkjaa.XwB
