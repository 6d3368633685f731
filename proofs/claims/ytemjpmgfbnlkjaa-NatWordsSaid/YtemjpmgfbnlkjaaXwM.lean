
/- Products by the program: word by word. -/
import Derived.Test.YtemjpmgfbnlkjaaXwU
import Derived.Lib.Mul64
import Derived.Test.YtemjpmgfbnlkjaaXwx1
import Derived.Test.YtemjpmgfbnlkjaaXwx2
namespace Go.Proofs.Ytemjpmgfbnlkjaa.XwB
open Go.RowKit Go.Proofs.Ytemjpmgfbnlkjaa.Xw Go.Proofs.Ytemjpmgfbnlkjaa.A Go.Proofs.Ytemjpmgfbnlkjaa.L Go.Proofs.YtemjpmgfbnlkjaaW.PrintWords Go.Proofs.YtemjpmgfbnlkjaaW.PrintLast Go.Proofs.YtemjpmgfbnlkjaaW.PrintMore
set_option linter.unusedSimpArgs false
set_option linter.unusedVariables false
theorem mask32 {a : Nat} (ha : a < 18446744073709551616) : Go.bits .and .u64 (a : Int) 4294967295 = ((a % 4294967296 : Nat) : Int) := and_mask a 32 ha (by omega)
theorem mul64_ok {x y : Nat} (hx : x < B64) (hy : y < B64) : bits_Mul64.f (x : Int) (y : Int) = some (((x * y / B64 : Nat) : Int), ((x * y % B64 : Nat) : Int)) := by
  have hx' : x < 18446744073709551616 := hx
  have hy' : y < 18446744073709551616 := hy
  obtain ⟨bd, bt, bw, hhi⟩ := Lib.mul64_hi x y hx' hy'
  have ba := Lib.half_mul_le (a := x / 4294967296) (b := y / 4294967296) (by omega) (by omega)
  have bb := Lib.half_mul_le (a := x / 4294967296) (b := y % 4294967296) (by omega) (by omega)
  have bc := Lib.half_mul_le (a := x % 4294967296) (b := y / 4294967296) (by omega) (by omega)
  unfold bits_Mul64.f
  have e1 : (x : Int) / 4294967296 = ((x / 4294967296 : Nat) : Int) := by omega
  have e2 : (y : Int) / 4294967296 = ((y / 4294967296 : Nat) : Int) := by omega
  have hm : ∀ a b : Nat, (a : Int) * (b : Int) = ((a * b : Nat) : Int) := fun a b => (Int.natCast_mul a b).symm
  have hlo : IntKind.u64.wrap ((x : Int) * (y : Int)) = ((x * y % B64 : Nat) : Int) := by
    rw [hm, wrapu]; unfold B64; omega
  have hhi' : x / 4294967296 * (y / 4294967296) + (x / 4294967296 * (y % 4294967296) + x % 4294967296 * (y % 4294967296) / 4294967296) / 4294967296 + ((x / 4294967296 * (y % 4294967296) + x % 4294967296 * (y % 4294967296) / 4294967296) % 4294967296 + x % 4294967296 * (y / 4294967296)) / 4294967296 = x * y / B64 := hhi
  rw [hlo, mask32 hx', mask32 hy', e1, e2, hm, hm, hm, hm, ← hhi']
  generalize x / 4294967296 * (y / 4294967296) = p at *
  generalize x / 4294967296 * (y % 4294967296) = q at *
  generalize x % 4294967296 * (y / 4294967296) = r at *
  generalize x % 4294967296 * (y % 4294967296) = s at *
  rw [wrapu_id (n := (s : Int)) (by omega) (by omega), wrapu_id (n := (q : Int)) (by omega) (by omega), wrapu_id (n := (r : Int)) (by omega) (by omega), wrapu_id (n := (p : Int)) (by omega) (by omega),
    show (s : Int) / 4294967296 = ((s / 4294967296 : Nat) : Int) by omega, show (q : Int) + ((s / 4294967296 : Nat) : Int) = ((q + s / 4294967296 : Nat) : Int) by omega, wrapu_id (n := ((q + s / 4294967296 : Nat) : Int)) (by omega) (by omega), mask32 (by omega), show ((q + s / 4294967296 : Nat) : Int) / 4294967296 = (((q + s / 4294967296) / 4294967296 : Nat) : Int) by omega]
  generalize (q + s / 4294967296) / 4294967296 = g at *
  generalize (q + s / 4294967296) % 4294967296 = h at *
  have hxy : x * y / 18446744073709551616 < 18446744073709551616 := by
    rw [Nat.div_lt_iff_lt_mul (by decide)]
    exact Nat.mul_lt_mul'' hx' hy'
  rw [← hhi] at hxy
  clear hhi'
  rw [show (h : Int) + (r : Int) = ((h + r : Nat) : Int) by omega, wrapu_id (n := ((h + r : Nat) : Int)) (by omega) (by omega), wrapu_id (n := (p : Int) + (g : Int)) (by omega) (by omega), show (p : Int) + (g : Int) + ((h + r : Nat) : Int) / 4294967296 = ((p + g + (h + r) / 4294967296 : Nat) : Int) by omega, wrapu_id (n := ((p + g + (h + r) / 4294967296 : Nat) : Int)) (by omega) (by omega)]
/-- One word's product, added to what stands and to the carry: the word and the carry. -/
theorem mul_word {x y o c : Nat} (hx : x < B64) (hy : y < B64) (ho : o < B64) (hc : c < B64) :
    x * y / B64 + (x * y % B64 + o) / B64 + ((x * y % B64 + o) % B64 + c) / B64 < B64 ∧
    ((x * y % B64 + o) % B64 + c) % B64 + B64 * (x * y / B64 + (x * y % B64 + o) / B64 + ((x * y % B64 + o) % B64 + c) / B64) = x * y + o + c := by
  have e1 := Nat.mod_add_div (x * y) B64
  have e2 := Nat.mod_add_div (x * y % B64 + o) B64
  have e3 := Nat.mod_add_div ((x * y % B64 + o) % B64 + c) B64
  have key : ((x * y % B64 + o) % B64 + c) % B64 + B64 * (x * y / B64 + (x * y % B64 + o) / B64 + ((x * y % B64 + o) % B64 + c) / B64) = x * y + o + c := by
    rw [Nat.mul_add, Nat.mul_add]; omega
  refine ⟨?_, key⟩
  have h1 : x * y ≤ (B64 - 1) * (B64 - 1) := Nat.mul_le_mul (by omega) (by omega)
  have h2 : (B64 - 1) * (B64 - 1) + (B64 - 1) + (B64 - 1) < B64 * B64 := by decide
  generalize x * y / B64 + (x * y % B64 + o) / B64 + ((x * y % B64 + o) % B64 + c) / B64 = z at *
  have h3 : B64 * z < B64 * B64 := by omega
  exact Nat.lt_of_mul_lt_mul_left h3
/-- One row: the digit x of a at place i, times b from place j on. -/
theorem mul_l1 {a b : List Int} (ha : okl B64 a) (hb : okl B64 b) (hla : a.length ≤ 128) (hlb : b.length ≤ 128) {i x : Nat} (hi : i < a.length) (hx : x < B64) (k0 : Nat) : ∀ (n j c : Nat) (out : List Int), j + n = b.length → okl B64 out → out.length = a.length + b.length → c < B64 → (∀ q, i + b.length ≤ q → out.getD q 0 = 0) →
    ∃ out', nat_Mul.l1 (k0 + n + 1) b out (i : Int) (x : Int) (c : Int) a (a.length : Int) (i : Int) b (b.length : Int) (j : Int) = nat_Mul.l0 k0 b out' a (a.length : Int) ((i + 1 : Nat) : Int) ∧ okl B64 out' ∧ out'.length = a.length + b.length ∧
      (∀ q, i + 1 + b.length ≤ q → out'.getD q 0 = 0) ∧ nv B64 out' = nv B64 out + B64 ^ (i + j) * c + B64 ^ i * x * (nv B64 b - nv B64 (b.take j)) := by
  intro n
  induction n with
  | zero =>
    intro j c out hj ho hlen hc hz
    have hj' : j = b.length := by omega
    subst hj'
    refine ⟨out.set (i + b.length) (c : Int), ?_, okl_set ho _ ⟨by omega, by omega⟩, by rw [List.length_set]; exact hlen, ?_, ?_⟩
    · rw [nat_Mul.l1, if_neg (by omega), wrapi_id (n := (i : Int) + (b.length : Int)) (by omega) (by omega), if_pos (by omega), if_pos (by omega), wrapi_id (n := (i : Int) + 1) (by omega) (by omega), show ((i : Int) + (b.length : Int)).toNat = i + b.length by omega]
      rfl
    · intro q hq
      have h1 := hz q (by omega)
      simp only [List.getD_eq_getElem?_getD] at h1 ⊢
      rw [List.getElem?_set_ne (by omega)]; exact h1
    · have h1 := nv_set B64 (l := out) (i := i + b.length) (c : Int) (by omega)
      rw [hz _ (Nat.le_refl _), Int.toNat_natCast] at h1
      rw [List.take_length, Nat.sub_self, Nat.mul_zero]
      have : (0 : Int).toNat = 0 := rfl
      rw [this, Nat.mul_zero] at h1
      omega
  | succ n ih =>
    intro j c out hj ho hlen hc hz
    obtain ⟨y, hy, hyB, hyn⟩ := dig_at hb b64_pos j
    obtain ⟨o, hoo, hoB, hon⟩ := dig_at ho b64_pos (i + j)
    obtain ⟨w1, w2⟩ := mul_word hx hyB hoB hc
    generalize hs2 : ((x * y % B64 + o) % B64 + c) % B64 = s2 at *
    generalize hcc : x * y / B64 + (x * y % B64 + o) / B64 + ((x * y % B64 + o) % B64 + c) / B64 = c' at *
    have hs2B : s2 < B64 := by rw [← hs2]; exact Nat.mod_lt _ b64_pos
    have hset : okl B64 (out.set (i + j) (s2 : Int)) := okl_set ho _ ⟨by omega, by omega⟩
    obtain ⟨out', o1, o2, o3, o4, o5⟩ := ih (j + 1) c' (out.set (i + j) (s2 : Int)) (by omega) hset (by rw [List.length_set]; exact hlen) w1 (by
      intro q hq
      have h1 := hz q hq
      simp only [List.getD_eq_getElem?_getD] at h1 ⊢
      rw [List.getElem?_set_ne (by omega)]; exact h1)
    refine ⟨out', ?_, o2, o3, o4, ?_⟩
    · have hB : B64 = 18446744073709551616 := rfl
      have hlo : x * y % B64 < B64 := Nat.mod_lt _ b64_pos
      have hm1 : (x * y % B64 + o) % B64 < B64 := Nat.mod_lt _ b64_pos
      have hA1 := add64_ok hlo hoB (by omega : 0 ≤ 1)
      have hA2 := add64_ok hm1 hc (by omega : 0 ≤ 1)
      rw [Nat.add_zero] at hA1 hA2
      have hz0 : ((0 : Nat) : Int) = 0 := rfl
      rw [hz0] at hA1 hA2
      rw [show k0 + (n + 1) + 1 = (k0 + n + 1) + 1 by omega, nat_Mul.l1, if_pos (by omega), if_pos (by omega), if_pos (by omega), hy, bind_eq (mul64_ok hx hyB), wrapi_id (n := (i : Int) + (j : Int)) (by omega) (by omega), if_pos (by omega), if_pos (by omega), show (i : Int) + (j : Int) = ((i + j : Nat) : Int) by omega, hoo, bind_eq hA1, bind_eq hA2, Int.toNat_natCast, hs2, wrapi_id (n := (j : Int) + 1) (by omega) (by omega)]
      have hw : ∀ d1 d2 d3 : Nat, d1 + d2 + d3 = c' → c' < 18446744073709551616 → IntKind.u64.wrap (IntKind.u64.wrap ((d1 : Int) + (d2 : Int)) + (d3 : Int)) = (c' : Int) := by
        intro d1 d2 d3 h1 h2
        rw [wrapu_id (n := (d1 : Int) + (d2 : Int)) (by omega) (by omega), wrapu_id (by omega) (by omega)]
        omega
      rw [hw _ _ _ hcc w1]
      exact o1
    · rw [o5]
      have h1 := nv_set B64 (l := out) (i := i + j) (s2 : Int) (by omega)
      rw [hon, Int.toNat_natCast] at h1
      have h2 := nv_take_step B64 b j
      rw [hyn] at h2
      have h3 := nv_take_drop B64 b (j + 1) (by omega)
      have h4 : B64 ^ (i + (j + 1)) * c' = B64 ^ (i + j) * (B64 * c') := by rw [← Nat.add_assoc, Nat.pow_succ, Nat.mul_assoc]
      have h5 : B64 ^ (i + j) * s2 + B64 ^ (i + j) * (B64 * c') = B64 ^ (i + j) * (x * y) + B64 ^ (i + j) * o + B64 ^ (i + j) * c := by
        rw [← Nat.mul_add, w2, Nat.mul_add, Nat.mul_add]
      have h6 : B64 ^ (i + j) * (x * y) = B64 ^ i * x * (B64 ^ j * y) := by
        rw [Nat.pow_add, Nat.mul_mul_mul_comm]
      have h7 : B64 ^ i * x * (nv B64 b - nv B64 (b.take j)) = B64 ^ i * x * (nv B64 b - nv B64 (b.take (j + 1))) + B64 ^ i * x * (B64 ^ j * y) := by
        rw [← Nat.mul_add]; congr 1; omega
      omega
theorem mul_l0 {a b : List Int} (ha : okl B64 a) (hb : okl B64 b) (hla : a.length ≤ 128) (hlb : b.length ≤ 128) : ∀ (n k i : Nat) (out : List Int), i + n = a.length → n * 132 + 400 ≤ k → okl B64 out → out.length = a.length + b.length → (∀ q, i + b.length ≤ q → out.getD q 0 = 0) → nv B64 out = nv B64 (a.take i) * nv B64 b →
    ∃ t, okl B64 t ∧ top t ∧ nv B64 t = nv B64 a * nv B64 b ∧ nat_Mul.l0 k b out a (a.length : Int) (i : Int) = if 128 < t.length then some ([], some 20) else some (t, none) := by
  intro n
  induction n with
  | zero =>
    intro k i out hi hk ho hlen hz hv
    obtain ⟨k, rfl⟩ : ∃ q, k = q + 1 := ⟨k - 1, by omega⟩
    obtain ⟨t, t1, t2, t3, t4⟩ := kept_ok ho (by omega) (k := k) (by omega)
    refine ⟨t, t1, t2, by rw [t3, hv, List.take_of_length_le (by omega)], ?_⟩
    rw [nat_Mul.l0, if_neg (by omega)]
    by_cases h : 128 < t.length
    · rw [if_pos h] at t4 ⊢; rw [bind_eq t4]
    · rw [if_neg h] at t4 ⊢; rw [bind_eq t4]
  | succ n ih =>
    intro k i out hi hk ho hlen hz hv
    obtain ⟨k, rfl⟩ : ∃ q, k = q + b.length + 1 + 1 := ⟨k - b.length - 2, by omega⟩
    obtain ⟨x, hx, hxB, hxn⟩ := dig_at ha b64_pos i
    obtain ⟨out', o1, o2, o3, o4, o5⟩ := mul_l1 ha hb hla hlb (by omega : i < a.length) hxB k b.length 0 0 out (by omega) ho hlen (by decide) hz
    have hv' : nv B64 out' = nv B64 (a.take (i + 1)) * nv B64 b := by
      rw [o5, hv, nv_take_step, hxn, Nat.add_mul, Nat.mul_zero]
      simp [nv]
    obtain ⟨t, t1, t2, t3, t4⟩ := ih k (i + 1) out' (by omega) (by omega) o2 o3 o4 hv'
    refine ⟨t, t1, t2, t3, ?_⟩
    rw [← t4, ← o1, nat_Mul.l0, if_pos (by omega), if_pos (by omega), if_pos (by omega), hx]
    rfl
theorem Mul_ok {a b : List Int} (ha : okl B64 a) (hb : okl B64 b) (hv : vtwo a b = 0) {k : Nat} (hk : 20000 ≤ k) :
    ∃ t, okl B64 t ∧ top t ∧ nv B64 t = nv B64 a * nv B64 b ∧ nat_Mul.f k a b = if 128 < t.length then some ([], some 20) else some (t, none) := by
  obtain ⟨⟨la, ta⟩, lb, tb⟩ := vtwo_zero hv
  have hval : nat_valid.f a b = some none := by rw [valid_ok (by omega) (by omega), hv]; rfl
  obtain ⟨t, t1, t2, t3, t4⟩ := mul_l0 ha hb la lb a.length k 0 (List.replicate (a.length + b.length) 0) (by omega) (by omega) (okl_zeros _ _ b64_pos) (by simp) (by
    intro q hq
    simp only [List.getD_eq_getElem?_getD, List.getElem?_replicate]
    split <;> rfl) (by rw [nv_zeros]; simp [nv])
  refine ⟨t, t1, t2, t3, ?_⟩
  rw [← t4]
  unfold nat_Mul.f
  rw [bind_eq hval, if_pos (by rfl), wrapi_id (n := (a.length : Int) + (b.length : Int)) (by omega) (by omega), if_pos (by omega), if_pos (by omega), show ((a.length : Int) + (b.length : Int)).toNat = a.length + b.length by omega]
  rfl
end Go.Proofs.Ytemjpmgfbnlkjaa.XwB
