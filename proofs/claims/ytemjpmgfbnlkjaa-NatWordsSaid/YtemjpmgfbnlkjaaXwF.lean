
/- Products of the reference, a quotient by a word, a power of a word: both sides. -/
import Derived.Test.YtemjpmgfbnlkjaaXwO
import Derived.Test.YtemjpmgfbnlkjaaXwJ
import Derived.Test.YtemjpmgfbnlkjaaXwM
import Derived.Test.YtemjpmgfbnlkjaaXwx3
import Derived.Test.YtemjpmgfbnlkjaaXwx4
import Derived.Test.YtemjpmgfbnlkjaaXwx5
import Derived.Test.YtemjpmgfbnlkjaaXwx8
import Derived.Test.YtemjpmgfbnlkjaaXwx9
namespace Go.Proofs.Ytemjpmgfbnlkjaa.XwB
open Go.RowKit Go.Proofs.Ytemjpmgfbnlkjaa.Xw Go.Proofs.Ytemjpmgfbnlkjaa.A Go.Proofs.Ytemjpmgfbnlkjaa.L Go.Proofs.YtemjpmgfbnlkjaaW.PrintWords Go.Proofs.YtemjpmgfbnlkjaaW.PrintLast Go.Proofs.YtemjpmgfbnlkjaaW.PrintMore
set_option linter.unusedSimpArgs false
set_option linter.unusedVariables false
theorem times_word {x y o c : Nat} (hx : x < B32) (hy : y < B32) (ho : o < B32) (hc : c < B32) : c + o + x * y < 18446744073709551616 := by
  have h1 : x * y ≤ (B32 - 1) * (B32 - 1) := Nat.mul_le_mul (by omega) (by omega)
  have h2 : (B32 - 1) * (B32 - 1) + (B32 - 1) + (B32 - 1) < 18446744073709551616 := by decide
  omega
theorem times_l1 {a b : List Int} (ha : okl B32 a) (hb : okl B32 b) (hla : a.length ≤ 300) (hlb : b.length ≤ 300) {i x : Nat} (hi : i < a.length) (hxa : rd a (i : Int) = (x : Int)) (hx : x < B32) (k0 : Nat) : ∀ (n j c : Nat) (out : List Int), j + n = b.length → okl B32 out → out.length = a.length + b.length → c < B32 → (∀ q, i + b.length ≤ q → out.getD q 0 = 0) →
    ∃ out', numeralref02_Times.l1 (k0 + n + 1) a b out (i : Int) (c : Int) (j : Int) = numeralref02_Times.l0 k0 a b out' ((i + 1 : Nat) : Int) ∧ okl B32 out' ∧ out'.length = a.length + b.length ∧
      (∀ q, i + 1 + b.length ≤ q → out'.getD q 0 = 0) ∧ nv B32 out' = nv B32 out + B32 ^ (i + j) * c + B32 ^ i * x * (nv B32 b - nv B32 (b.take j)) := by
  have hB : B32 = 4294967296 := rfl
  intro n
  induction n with
  | zero =>
    intro j c out hj ho hlen hc hz
    have hj' : j = b.length := by omega
    subst hj'
    refine ⟨out.set (i + b.length) (c : Int), ?_, okl_set ho _ ⟨by omega, by omega⟩, by rw [List.length_set]; exact hlen, ?_, ?_⟩
    · rw [numeralref02_Times.l1, if_neg (by omega), wrapi_id (n := (i : Int) + (b.length : Int)) (by omega) (by omega), if_pos (by omega), if_pos (by omega), wrapi_id (n := (i : Int) + 1) (by omega) (by omega), show ((i : Int) + (b.length : Int)).toNat = i + b.length by omega, show (c : Int) % 4294967296 = (c : Int) by omega]
      rfl
    · intro q hq
      have h1 := hz q (by omega)
      simp only [List.getD_eq_getElem?_getD] at h1 ⊢
      rw [List.getElem?_set_ne (by omega)]; exact h1
    · have h1 := nv_set B32 (l := out) (i := i + b.length) (c : Int) (by omega)
      rw [hz _ (Nat.le_refl _), Int.toNat_natCast] at h1
      rw [List.take_length, Nat.sub_self, Nat.mul_zero]
      have : (0 : Int).toNat = 0 := rfl
      rw [this, Nat.mul_zero] at h1
      omega
  | succ n ih =>
    intro j c out hj ho hlen hc hz
    obtain ⟨y, hy, hyB, hyn⟩ := dig_at hb b32_pos j
    obtain ⟨o, hoo, hoB, hon⟩ := dig_at ho b32_pos (i + j)
    have w1 := times_word hx hyB hoB hc
    have w2 := Nat.mod_add_div (c + o + x * y) B32
    have w3 : (c + o + x * y) / B32 < B32 := by
      rw [Nat.div_lt_iff_lt_mul b32_pos]; exact w1
    have hs2B : (c + o + x * y) % B32 < B32 := Nat.mod_lt _ b32_pos
    have hval : IntKind.u64.wrap ((IntKind.u64.wrap ((c : Int) + IntKind.u64.wrap (o : Int))) + IntKind.u64.wrap (IntKind.u64.wrap (x : Int) * IntKind.u64.wrap (y : Int))) = ((c + o + x * y : Nat) : Int) := by
      rw [wrapu_id (n := (o : Int)) (by omega) (by omega), wrapu_id (n := (x : Int)) (by omega) (by omega), wrapu_id (n := (y : Int)) (by omega) (by omega), show (x : Int) * (y : Int) = ((x * y : Nat) : Int) from (Int.natCast_mul x y).symm]
      generalize x * y = z at *
      rw [wrapu_id (n := (z : Int)) (by omega) (by omega), wrapu_id (n := (c : Int) + (o : Int)) (by omega) (by omega), wrapu_id (by omega) (by omega)]
      omega
    obtain ⟨s, hs⟩ : ∃ s, s = c + o + x * y := ⟨_, rfl⟩
    rw [← hs] at w2 w3 hs2B hval
    obtain ⟨s2, hs2⟩ : ∃ s2, s2 = s % B32 := ⟨_, rfl⟩
    obtain ⟨c', hc'⟩ : ∃ c', c' = s / B32 := ⟨_, rfl⟩
    rw [← hs2, ← hc'] at w2
    rw [← hc'] at w3
    rw [← hs2] at hs2B
    have hset : okl B32 (out.set (i + j) (s2 : Int)) := okl_set ho _ ⟨by omega, by omega⟩
    obtain ⟨out', o1, o2, o3, o4, o5⟩ := ih (j + 1) c' (out.set (i + j) (s2 : Int)) (by omega) hset (by rw [List.length_set]; exact hlen) w3 (by
      intro q hq
      have h1 := hz q hq
      simp only [List.getD_eq_getElem?_getD] at h1 ⊢
      rw [List.getElem?_set_ne (by omega)]; exact h1)
    refine ⟨out', ?_, o2, o3, o4, ?_⟩
    · rw [show k0 + (n + 1) + 1 = (k0 + n + 1) + 1 by omega, numeralref02_Times.l1, if_pos (by omega), wrapi_id (n := (i : Int) + (j : Int)) (by omega) (by omega), if_pos (by omega), if_pos (by omega), if_pos (by omega), if_pos (by omega), if_pos (by omega), wrapi_id (n := (j : Int) + 1) (by omega) (by omega), hxa, hy, show (i : Int) + (j : Int) = ((i + j : Nat) : Int) by omega, hoo, hval, Int.toNat_natCast, show (s : Int) % 4294967296 = (s2 : Int) by rw [hs2, hB]; omega, show (s : Int) / 4294967296 = (c' : Int) by rw [hc', hB]; omega]
      exact o1
    · rw [o5]
      have h1 := nv_set B32 (l := out) (i := i + j) (s2 : Int) (by omega)
      rw [hon, Int.toNat_natCast] at h1
      have h2 := nv_take_step B32 b j
      rw [hyn] at h2
      have h3 := nv_take_drop B32 b (j + 1) (by omega)
      have h4 : B32 ^ (i + (j + 1)) * c' = B32 ^ (i + j) * (B32 * c') := by rw [← Nat.add_assoc, Nat.pow_succ, Nat.mul_assoc]
      have h5 : B32 ^ (i + j) * s2 + B32 ^ (i + j) * (B32 * c') = B32 ^ (i + j) * c + B32 ^ (i + j) * o + B32 ^ (i + j) * (x * y) := by
        rw [← Nat.mul_add, w2, hs, Nat.mul_add, Nat.mul_add]
      have h6 : B32 ^ (i + j) * (x * y) = B32 ^ i * x * (B32 ^ j * y) := by
        rw [Nat.pow_add, Nat.mul_mul_mul_comm]
      have h7 : B32 ^ i * x * (nv B32 b - nv B32 (b.take j)) = B32 ^ i * x * (nv B32 b - nv B32 (b.take (j + 1))) + B32 ^ i * x * (B32 ^ j * y) := by
        rw [← Nat.mul_add]; congr 1; omega
      omega
set_option maxRecDepth 8000 in
theorem times_l0 {a b : List Int} (ha : okl B32 a) (hb : okl B32 b) (hla : a.length ≤ 300) (hlb : b.length ≤ 300) : ∀ (n k i : Nat) (out : List Int), i + n = a.length → n * 310 + 1000 ≤ k → okl B32 out → out.length = a.length + b.length → (∀ q, i + b.length ≤ q → out.getD q 0 = 0) → nv B32 out = nv B32 (a.take i) * nv B32 b →
    ∃ t, okl B32 t ∧ top t ∧ nv B32 t = nv B32 a * nv B32 b ∧ numeralref02_Times.l0 k a b out (i : Int) = some t ∧ t.length ≤ a.length + b.length := by
  intro n
  induction n with
  | zero =>
    intro k i out hi hk ho hlen hz hv
    obtain ⟨k, rfl⟩ : ∃ q, k = q + 1 := ⟨k - 1, by omega⟩
    obtain ⟨m, m1, m2, m3, m4⟩ := rtrim_ok (l := out) (by omega) (k := k) (by omega)
    refine ⟨out.take m, okl_take ho m, m3, by rw [m4, hv, List.take_of_length_le (by omega)], ?_, by rw [List.length_take]; omega⟩
    rw [numeralref02_Times.l0, if_neg (by omega), bind_eq m2]
  | succ n ih =>
    intro k i out hi hk ho hlen hz hv
    obtain ⟨k, rfl⟩ : ∃ q, k = q + b.length + 1 + 1 := ⟨k - b.length - 2, by omega⟩
    obtain ⟨x, hx, hxB, hxn⟩ := dig_at ha b32_pos i
    obtain ⟨out', o1, o2, o3, o4, o5⟩ := times_l1 ha hb hla hlb (by omega : i < a.length) hx hxB k b.length 0 0 out (by omega) ho hlen (by decide) hz
    have hv' : nv B32 out' = nv B32 (a.take (i + 1)) * nv B32 b := by
      rw [o5, hv, nv_take_step, hxn, Nat.add_mul, Nat.mul_zero]
      simp [nv]
    obtain ⟨t, t1, t2, t3, t4, t5⟩ := ih k (i + 1) out' (by omega) (by omega) o2 o3 o4 hv'
    refine ⟨t, t1, t2, t3, ?_, t5⟩
    rw [← t4, ← o1, numeralref02_Times.l0, if_pos (by omega)]
    rfl
theorem times_ok {a b : List Int} (ha : okl B32 a) (hb : okl B32 b) (hla : a.length ≤ 300) (hlb : b.length ≤ 300) {k : Nat} (hk : 100000 ≤ k) :
    ∃ t, okl B32 t ∧ top t ∧ nv B32 t = nv B32 a * nv B32 b ∧ numeralref02_Times.f k a b = some t ∧ t.length ≤ a.length + b.length := by
  obtain ⟨t, t1, t2, t3, t4, t5⟩ := times_l0 ha hb hla hlb a.length k 0 (List.replicate (a.length + b.length) 0) (by omega) (by omega) (okl_zeros _ _ b32_pos) (by simp) (by
    intro q hq
    simp only [List.getD_eq_getElem?_getD, List.getElem?_replicate]
    split <;> rfl) (by rw [nv_zeros]; simp [nv])
  refine ⟨t, t1, t2, t3, ?_, t5⟩
  rw [← t4]
  unfold numeralref02_Times.f
  rw [wrapi_id (n := (a.length : Int) + (b.length : Int)) (by omega) (by omega), if_pos (by omega), if_pos (by omega), show ((a.length : Int) + (b.length : Int)).toNat = a.length + b.length by omega]
  rfl
theorem small_ok {d : Nat} (hd : d < B64) {k : Nat} (hk : 10 ≤ k) : ∃ p, numeralref02_Small.f k (d : Int) = some p ∧ okl B32 p ∧ top p ∧ nv B32 p = d ∧ p.length ≤ 2 := by
  have hB : B64 = 18446744073709551616 := rfl
  have hB2 : B32 = 4294967296 := rfl
  obtain ⟨m, m1, m2, m3, m4⟩ := rtrim_ok (l := [(d : Int) % 4294967296, ((d : Int) / 4294967296) % 4294967296]) (by simp) (k := k) (by simp; omega)
  have ho : okl B32 [(d : Int) % 4294967296, ((d : Int) / 4294967296) % 4294967296] := okl_cons.2 ⟨⟨by omega, by omega⟩, okl_cons.2 ⟨⟨by omega, by omega⟩, okl_nil _⟩⟩
  refine ⟨_, ?_, okl_take ho m, m3, ?_, by rw [List.length_take]; simp; omega⟩
  · unfold numeralref02_Small.f; rw [bind_eq m2]
  · rw [m4]; simp only [nv]; rw [hB2]; omega
theorem one_ok {d : Nat} (hd : d < B64) (h0 : 0 < d) : okl B64 [(d : Int)] ∧ top [(d : Int)] ∧ nv B64 [(d : Int)] = d ∧ vnum [(d : Int)] = 0 := by
  have ht : top [(d : Int)] := by intro x hx; simp at hx; omega
  refine ⟨okl_cons.2 ⟨⟨by omega, by omega⟩, okl_nil _⟩, ht, by simp [nv], (vnum_zero _).2 ⟨by simp, ht⟩⟩
theorem nOf_ok {d : Nat} (hd : d < B64) {k : Nat} (hk : 10 ≤ k) : nat_Of.f k (d : Int) = some (if d = 0 then [] else [(d : Int)]) := by
  obtain ⟨m, m1, m2, m3, m4⟩ := trim_ok (l := [(d : Int)]) (by simp) (k := k) (by simp; omega)
  have ho : okl B64 [(d : Int)] := okl_cons.2 ⟨⟨by omega, by omega⟩, okl_nil _⟩
  unfold nat_Of.f
  rw [bind_eq m2]
  congr 1
  by_cases h0 : d = 0
  · rw [if_pos h0]
    exact (nv_eq_zero b64_one (okl_take ho m) m3).1 (by rw [m4, h0]; rfl)
  · rw [if_neg h0]
    obtain ⟨e1, e2, e3, _⟩ := one_ok hd (by omega)
    exact top_inj b64_one (okl_take ho m) e1 m3 e2 (m4 _)
/-! ### the quotient by a word -/
theorem dw_l0 {a : List Int} {d : Nat} (ha : okl B64 a) (la : a.length ≤ 128) (hd0 : 0 < d) (hd : d < B64) : ∀ (j k : Nat) (out : List Int), j ≤ a.length → j + 300 ≤ k → okl B64 out → out.length = a.length → nv B64 out = B64 ^ j * (nv B64 (a.drop j) / d) →
    ∃ q, nat_DivWord.l0 k a (d : Int) out ((nv B64 (a.drop j) % d : Nat) : Int) ((j : Int) - 1) = some (q, ((nv B64 a % d : Nat) : Int), none) ∧ okl B64 q ∧ top q ∧ nv B64 q = nv B64 a / d ∧ q.length ≤ a.length := by
  have hB : B64 = 18446744073709551616 := rfl
  intro j
  induction j with
  | zero =>
    intro k out hj hk ho hlen hv
    obtain ⟨k, rfl⟩ : ∃ q, k = q + 1 := ⟨k - 1, by omega⟩
    obtain ⟨m, m1, m2, m3, m4⟩ := trim_ok (l := out) (by omega) (k := k) (by omega)
    refine ⟨out.take m, ?_, okl_take ho m, m3, by rw [m4, hv, Nat.pow_zero, Nat.one_mul, List.drop_zero], by rw [List.length_take]; omega⟩
    rw [nat_DivWord.l0, if_neg (by omega), bind_eq m2, List.drop_zero]
  | succ j ih =>
    intro k out hj hk ho hlen hv
    obtain ⟨k, rfl⟩ : ∃ q, k = q + 1 := ⟨k - 1, by omega⟩
    obtain ⟨x, hx, hxB, hxn⟩ := dig_at ha b64_pos j
    have hr := Nat.mod_lt (nv B64 (a.drop (j + 1))) hd0
    have hDQ := Nat.div_add_mod (nv B64 (a.drop (j + 1))) d
    have hdiv := div64_ok (hi := nv B64 (a.drop (j + 1)) % d) (lo := x) (y := d) hxB hd hr (k := k) (by omega)
    have hdrop : nv B64 (a.drop j) = x + B64 * nv B64 (a.drop (j + 1)) := by rw [drop_get (by omega : j < a.length), nv, hxn]
    obtain ⟨Q, hQ⟩ : ∃ Q, Q = nv B64 (a.drop (j + 1)) / d := ⟨_, rfl⟩
    obtain ⟨r, hrr⟩ : ∃ r, r = nv B64 (a.drop (j + 1)) % d := ⟨_, rfl⟩
    rw [← hQ] at hDQ hv
    rw [← hrr] at hDQ hr hdiv ⊢
    rw [← hDQ] at hdrop
    have hsum : nv B64 (a.drop j) = d * (B64 * Q) + (r * 18446744073709551616 + x) := by
      rw [hdrop, Nat.mul_add, Nat.mul_left_comm, hB, Nat.mul_comm r]; omega
    have e1 : nv B64 (a.drop j) / d = B64 * Q + (r * 18446744073709551616 + x) / d := by rw [hsum, Nat.mul_add_div hd0]
    have e2 : nv B64 (a.drop j) % d = (r * 18446744073709551616 + x) % d := by rw [hsum, Nat.mul_add_mod]
    have hqB : (r * 18446744073709551616 + x) / d < B64 := by
      rw [Nat.div_lt_iff_lt_mul hd0]
      have h1 := Nat.mul_le_mul_right 18446744073709551616 (show r + 1 ≤ d from hr)
      rw [Nat.add_mul] at h1
      rw [hB, Nat.mul_comm 18446744073709551616]
      omega
    rw [← e2] at hdiv
    obtain ⟨q, hq⟩ : ∃ q, q = (r * 18446744073709551616 + x) / d := ⟨_, rfl⟩
    rw [← hq] at hdiv hqB e1
    have hset : okl B64 (out.set j (q : Int)) := okl_set ho _ ⟨by omega, by omega⟩
    have hold : (out.getD j 0).toNat = 0 := by
      rw [dig_val b64_pos ho, hv, Nat.pow_succ, Nat.mul_assoc, Nat.mul_div_cancel_left _ (Nat.pow_pos b64_pos), Nat.mul_mod_right]
    have hnv := nv_set B64 (l := out) (i := j) (q : Int) (by omega)
    rw [hold, Int.toNat_natCast, Nat.mul_zero, Nat.add_zero, hv, Nat.pow_succ, Nat.mul_assoc, ← Nat.mul_add, ← e1] at hnv
    obtain ⟨t, t1, t2⟩ := ih k (out.set j (q : Int)) (by omega) (by omega) hset (by rw [List.length_set]; exact hlen) hnv
    refine ⟨t, ?_, t2⟩
    rw [nat_DivWord.l0, show ((j + 1 : Nat) : Int) - 1 = (j : Int) by omega, if_pos (by omega), if_pos (by omega), if_pos (by omega), hx, bind_eq hdiv, if_pos (by omega), wrapi_id (n := (j : Int) - 1) (by omega) (by omega), Int.toNat_natCast]
    exact t1
theorem DivWord_ok {a : List Int} {d : Nat} (ha : okl B64 a) (hv : vnum a = 0) (hd0 : 0 < d) (hd : d < B64) {k : Nat} (hk : 500 ≤ k) :
    ∃ q, nat_DivWord.f k a (d : Int) = some (q, ((nv B64 a % d : Nat) : Int), none) ∧ okl B64 q ∧ top q ∧ nv B64 q = nv B64 a / d ∧ q.length ≤ a.length := by
  obtain ⟨la, ta⟩ := (vnum_zero a).1 hv
  have hV := Valid_ok (l := a) (by omega)
  obtain ⟨q, q1, q2⟩ := dw_l0 ha la hd0 hd a.length k (List.replicate a.length 0) (by omega) (by omega) (okl_zeros _ _ b64_pos) (by simp) (by rw [nv_zeros, List.drop_length]; simp [nv])
  refine ⟨q, ?_, q2⟩
  unfold nat_DivWord.f
  rw [List.drop_length] at q1
  have h0 : nv B64 [] % d = 0 := by simp [nv]
  rw [h0] at q1
  rw [bind_eq hV, if_pos (by rw [errn_isNone]; exact hv), if_neg (by omega), if_pos (by omega), if_pos (by omega), wrapi_id (n := (a.length : Int) - 1) (by omega) (by omega), Int.toNat_natCast]
  exact q1
theorem DivWord_both {a : List Int} {d : Nat} (ha : okl B64 a) (hla : a.length < 1000000000000000) (hd : d < B64) {k : Nat} (hk : 60000 ≤ k) :
    ∃ q r c, nat_DivWord.f k a (d : Int) = some (q, r, errn c) ∧ numeralref02_DivWord.f k a (d : Int) = some (q, r, c) ∧ q.length ≤ 128 := by
  have hV := Valid_ok (l := a) hla
  by_cases hv : vnum a = 0
  · by_cases h0 : d = 0
    · subst h0
      have htwo : numeralref02_two.f a [] = some 0 := by rw [two_ok hla (by simp)]; unfold vtwo; rw [if_pos hv]; rfl
      refine ⟨[], 0, 10, ?_, ?_, by simp⟩
      · unfold nat_DivWord.f
        rw [bind_eq hV, if_pos (by rw [errn_isNone]; exact hv), if_pos (show ((0 : Nat) : Int) = 0 from rfl)]; rfl
      · unfold numeralref02_DivWord.f
        have hD : numeralref02_Div.f k a [] = some ([], [], 10) := by
          unfold numeralref02_Div.f; rw [bind_eq htwo, if_pos rfl, if_pos (by rfl)]
        rw [if_neg (by omega), bind_eq hD, if_pos (by rfl)]
    · obtain ⟨e1, e2, e3, e4⟩ := one_ok hd (by omega)
      obtain ⟨q, q1, q2, q3, q4, q5⟩ := DivWord_ok ha hv (by omega) hd (k := k) (by omega)
      obtain ⟨t, r, t1, t2, t3, t4, t5, t6, t7, t8, t9⟩ := rDiv_ok ha e1 (by unfold vtwo; rw [if_pos hv]; exact e4) (by simp) hk
      rw [e3] at t6 t7
      have hu : nv B64 a / d = nv B64 t ∧ nv B64 a % d = nv B64 r := by
        rw [← t6, Nat.mul_comm, Nat.mul_add_div (by omega), Nat.div_eq_of_lt t7, Nat.mul_add_mod, Nat.mod_eq_of_lt t7]
        exact ⟨rfl, rfl⟩
      have hqt : q = t := top_inj b64_one q2 t2 q3 t3 (by rw [q4, hu.1])
      subst hqt
      refine ⟨q, ((nv B64 a % d : Nat) : Int), 0, q1, ?_, t8⟩
      unfold numeralref02_DivWord.f
      have happ : ([] : List Int) ++ [(d : Int)] = [(d : Int)] := rfl
      rw [if_pos (by omega), if_pos (by simp), happ, bind_eq t1]
      have hlr : r.length ≤ 1 := by
        have := (top_length b64_one t4 t5 1).2 (by rw [Nat.pow_one]; omega)
        omega
      match r, hlr with
      | [], _ =>
        rw [if_pos (by rfl), hu.2]; rfl
      | [x], _ =>
        have hx := (okl_cons.1 t4).1
        rw [if_neg (by simp), if_pos (by simp), hu.2]
        have : rd [x] 0 = ((nv B64 [x] : Nat) : Int) := by
          show x = ((x.toNat + B64 * 0 : Nat) : Int)
          omega
        rw [this]
  · refine ⟨[], 0, vnum a, ?_, ?_, by simp⟩
    · unfold nat_DivWord.f
      rw [bind_eq hV, if_neg (by rw [errn_isNone]; exact hv), errn_getD hv]
    · have htwo : ∀ b : List Int, b.length < 10 → numeralref02_two.f a b = some (vnum a) := fun b hb => by rw [two_ok hla (by omega)]; unfold vtwo; rw [if_neg hv]
      have hD : ∀ b : List Int, b.length < 10 → numeralref02_Div.f k a b = some ([], [], vnum a) := fun b hb => by
        unfold numeralref02_Div.f; rw [bind_eq (htwo b hb), if_neg hv]
      unfold numeralref02_DivWord.f
      by_cases h0 : d = 0
      · rw [if_neg (by omega), bind_eq (hD _ (by simp)), if_pos (by rfl)]
      · rw [if_pos (by omega), if_pos (by simp), bind_eq (hD _ (by simp)), if_pos (by rfl)]
/-! ### powers -/
theorem pow_pow_eq (b m n N : Nat) (h : m * n = N) : (b ^ m) ^ n = b ^ N := by rw [← Nat.pow_mul, h]
theorem big_pow : B64 ^ 128 = 2 ^ 8192 ∧ B32 ^ 256 = 2 ^ 8192 := by
  have e1 : B64 = 2 ^ 64 := rfl
  have e2 : B32 = 2 ^ 32 := rfl
  rw [e1, e2]
  exact ⟨pow_pow_eq 2 64 128 8192 rfl, pow_pow_eq 2 32 256 8192 rfl⟩
theorem pow_steps {d i L : Nat} (hd : 2 ≤ d) (h : d ^ i < 2 ^ L) : i < L := by
  have h1 : 2 ^ i ≤ d ^ i := Nat.pow_le_pow_left hd i
  exact (Nat.pow_lt_pow_iff_right (by decide : 1 < 2)).1 (Nat.lt_of_le_of_lt h1 h)
theorem pw_l0 {d n : Nat} (hd2 : 2 ≤ d) (hd : d < B64) (hn : n < 9223372036854775808) : ∀ (t k i : Nat) (out : List Int), i + t = 8193 → i ≤ n → t + 20000 ≤ k → okl B64 out → top out → nv B64 out = d ^ i → out.length ≤ 128 →
    ∃ p, okl B64 p ∧ top p ∧ p.length ≤ 128 ∧ ((nv B64 p = d ^ n ∧ d ^ n < 2 ^ 8192 ∧ nat_Power.l0 k (d : Int) out (n : Int) (i : Int) = some (p, none)) ∨ (2 ^ 8192 ≤ d ^ n ∧ nat_Power.l0 k (d : Int) out (n : Int) (i : Int) = some ([], some 20))) := by
  intro t
  induction t with
  | zero =>
    intro k i out hi hin hk ho ht hv hl
    exfalso
    have h1 := (top_length b64_one ho ht 128).1 hl
    rw [hv, big_pow.1] at h1
    have := pow_steps hd2 h1
    omega
  | succ t ih =>
    intro k i out hi hin hk ho ht hv hl
    obtain ⟨k, rfl⟩ : ∃ q, k = q + 1 := ⟨k - 1, by omega⟩
    have hlt := (top_length b64_one ho ht 128).1 hl
    rw [hv, big_pow.1] at hlt
    rw [nat_Power.l0]
    by_cases hc : i < n
    · obtain ⟨e1, e2, e3, e4⟩ := one_ok hd (by omega)
      have hvt : vtwo out [(d : Int)] = 0 := by unfold vtwo; rw [if_pos ((vnum_zero out).2 ⟨hl, ht⟩)]; exact e4
      obtain ⟨s, s1, s2, s3, s4⟩ := Mul_ok ho e1 hvt (k := k) (by omega)
      rw [hv, e3, ← Nat.pow_succ] at s3
      rw [if_pos (by omega)]
      by_cases hs : 128 < s.length
      · rw [if_pos hs] at s4
        rw [bind_eq s4]
        refine ⟨[], okl_nil _, top_nil, by simp, .inr ⟨?_, ?_⟩⟩
        · have h1 : ¬ nv B64 s < B64 ^ 128 := fun h => by have := (top_length b64_one s1 s2 128).2 h; omega
          rw [s3, big_pow.1] at h1
          exact Nat.le_trans (Nat.le_of_not_lt h1) (Nat.pow_le_pow_right (by omega) hc)
        · rw [if_neg (by simp)]; rfl
      · obtain ⟨p, p1, p2, p3, p4⟩ := ih k (i + 1) s (by omega) (by omega) (by omega) s1 s2 s3 (by omega)
        refine ⟨p, p1, p2, p3, ?_⟩
        rw [if_neg hs] at s4
        rw [bind_eq s4, if_pos (by rfl), wrapi_id (n := (i : Int) + 1) (by omega) (by omega)]
        exact p4
    · have hin' : i = n := by omega
      subst hin'
      refine ⟨out, ho, ht, hl, .inl ⟨hv, hlt, ?_⟩⟩
      rw [if_neg (by omega)]
theorem rpw_l0 {d n : Nat} (hd2 : 2 ≤ d) (hd : d < B64) (hn : n < 9223372036854775808) : ∀ (t k i : Nat) (out : List Int), i + t = 8193 → i ≤ n → t + 200000 ≤ k → okl B32 out → top out → nv B32 out = d ^ i → out.length ≤ 256 →
    ∃ p, okl B64 p ∧ top p ∧ p.length ≤ 128 ∧ ((nv B64 p = d ^ n ∧ d ^ n < 2 ^ 8192 ∧ numeralref02_Power.l0 k (d : Int) (n : Int) out (i : Int) = some (p, 0)) ∨ (2 ^ 8192 ≤ d ^ n ∧ numeralref02_Power.l0 k (d : Int) (n : Int) out (i : Int) = some ([], 20))) := by
  intro t
  induction t with
  | zero =>
    intro k i out hi hin hk ho ht hv hl
    exfalso
    have h1 := (top_length b32_one ho ht 256).1 hl
    rw [hv, big_pow.2] at h1
    have := pow_steps hd2 h1
    omega
  | succ t ih =>
    intro k i out hi hin hk ho ht hv hl
    obtain ⟨k, rfl⟩ : ∃ q, k = q + 1 := ⟨k - 1, by omega⟩
    have hlt := (top_length b32_one ho ht 256).1 hl
    rw [hv, big_pow.2] at hlt
    rw [numeralref02_Power.l0]
    by_cases hc : i < n
    · obtain ⟨e, e1, e2, e3, e4, e5⟩ := small_ok hd (k := k) (by omega)
      obtain ⟨s, s1, s2, s3, s4, s5⟩ := times_ok ho e2 (by omega) (by omega) (k := k) (by omega)
      rw [hv, e4, ← Nat.pow_succ] at s3
      rw [if_pos (by omega), bind_eq e1, bind_eq s4]
      by_cases hs : 256 < s.length
      · refine ⟨[], okl_nil _, top_nil, by simp, .inr ⟨?_, ?_⟩⟩
        · have h1 : ¬ nv B32 s < B32 ^ 256 := fun h => by have := (top_length b32_one s1 s2 256).2 h; omega
          rw [s3, big_pow.2] at h1
          exact Nat.le_trans (Nat.le_of_not_lt h1) (Nat.pow_le_pow_right (by omega) hc)
        · rw [if_pos (by omega)]
      · obtain ⟨p, p1, p2, p3, p4⟩ := ih k (i + 1) s (by omega) (by omega) (by omega) s1 s2 s3 (by omega)
        refine ⟨p, p1, p2, p3, ?_⟩
        rw [if_neg (by omega), wrapi_id (n := (i : Int) + 1) (by omega) (by omega)]
        exact p4
    · have hin' : i = n := by omega
      subst hin'
      obtain ⟨w, w1, w2, w3, w4⟩ := words_ok ho ht (by omega) (k := k) (by omega)
      have hw : w.length ≤ 128 := (top_length b64_one w1 w2 128).2 (by rw [w3, hv, big_pow.1]; exact hlt)
      rw [if_neg (by omega)] at w4
      refine ⟨w, w1, w2, hw, .inl ⟨by rw [w3, hv], hlt, ?_⟩⟩
      rw [if_neg (by omega), bind_eq w4]
theorem Power_both {d : Nat} {n : Int} (hd : d < B64) (hn0 : -9223372036854775808 ≤ n) (hn : n < 9223372036854775808) {k : Nat} (hk : 300000 ≤ k) :
    ∃ p c, nat_Power.f k (d : Int) n = some (p, errn c) ∧ numeralref02_Power.f k (d : Int) n = some (p, c) ∧ p.length ≤ 128 := by
  have hB : B64 = 18446744073709551616 := rfl
  obtain ⟨k, rfl⟩ : ∃ q, k = q + 1 := ⟨k - 1, by omega⟩
  have hone := nOf_ok (d := 1) (by decide) (k := k + 1) (by omega)
  rw [if_neg (by decide)] at hone
  have hone' : nat_Of.f (k + 1) 1 = some [1] := hone
  unfold nat_Power.f numeralref02_Power.f
  by_cases hneg : n < 0
  · rw [if_pos hneg, if_pos hneg]; exact ⟨[], 1, rfl, rfl, by simp⟩
  rw [if_neg hneg, if_neg hneg]
  by_cases h0 : n = 0
  · subst h0
    rw [if_pos rfl, if_pos rfl, numeralref02_Power.j0, if_pos rfl]
    refine ⟨[1], 0, ?_, rfl, by simp⟩
    by_cases h2 : d < 2
    · rw [if_pos (by omega), bind_eq hone']; rfl
    · rw [if_neg (by omega), bind_eq hone']
      obtain ⟨k, rfl⟩ : ∃ q, k = q + 1 := ⟨k - 1, by omega⟩
      rw [nat_Power.l0, if_neg (by omega)]; rfl
  · rw [if_neg h0]
    by_cases h2 : d < 2
    · rw [if_pos (by omega), if_neg h0, bind_eq (nOf_ok hd (by omega)), numeralref02_Power.j0]
      by_cases h1 : d = 1
      · subst h1
        rw [if_neg (show ¬ ((1 : Nat) = 0) by decide), if_pos (show ((((1 : Nat) : Int) == 1)) = true from rfl)]
        exact ⟨[1], 0, rfl, rfl, by simp⟩
      · have hd0 : d = 0 := by omega
        subst hd0
        rw [if_pos (show (0 : Nat) = 0 from rfl), if_neg (show ¬ ((((0 : Nat) : Int) == 1)) = true by decide), if_pos (show ((0 : Nat) : Int) = 0 from rfl)]
        exact ⟨[], 0, rfl, rfl, by simp⟩
    · obtain ⟨m, rfl⟩ : ∃ m : Nat, n = (m : Int) := ⟨n.toNat, by omega⟩
      have hb : ((d : Int) == 1) = false := by rw [beq_eq_false_iff_ne]; omega
      have hs := small_ok (d := 1) (by decide) (k := k) (by omega)
      obtain ⟨e, e1, e2, e3, e4, e5⟩ := hs
      have e1' : numeralref02_Small.f k 1 = some e := e1
      have ho1 := one_ok (d := 1) (by decide) (by decide)
      obtain ⟨p, p1, p2, p3, p4⟩ := pw_l0 (n := m) (by omega) hd (by omega) 8193 (k + 1) 0 [1] (by omega) (by omega) (by omega) ho1.1 ho1.2.1 (by rw [Nat.pow_zero]; rfl) (by simp)
      obtain ⟨r, r1, r2, r3, r4⟩ := rpw_l0 (n := m) (by omega) hd (by omega) 8193 k 0 e (by omega) (by omega) (by omega) e2 e3 (by rw [Nat.pow_zero]; exact e4) (by omega)
      rw [if_neg (show ¬ (d : Int) < 2 by omega), if_neg h0, hb, numeralref02_Power.j0, if_neg (by decide), if_neg (by omega), bind_eq hone', bind_eq e1']
      rcases p4 with ⟨a1, a2, a3⟩ | ⟨a2, a3⟩
      · rcases r4 with ⟨b1, b2, b3⟩ | ⟨b2, b3⟩
        · have : p = r := top_inj b64_one p1 r1 p2 r2 (by rw [a1, b1])
          subst this
          exact ⟨p, 0, a3, b3, p3⟩
        · omega
      · rcases r4 with ⟨b1, b2, b3⟩ | ⟨b2, b3⟩
        · omega
        · exact ⟨[], 20, a3, b3, by simp⟩
end Go.Proofs.Ytemjpmgfbnlkjaa.XwB
