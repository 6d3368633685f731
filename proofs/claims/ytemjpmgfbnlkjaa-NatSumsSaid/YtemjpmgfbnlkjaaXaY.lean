
/- Sums, differences, the order: by the program's printed functions and the reference's. -/
import Derived.Test.YtemjpmgfbnlkjaaXaZ
import Derived.Test.YtemjpmgfbnlkjaaXax1
import Derived.Test.YtemjpmgfbnlkjaaXax4
import Derived.Test.YtemjpmgfbnlkjaaXax6
import Derived.Test.YtemjpmgfbnlkjaaXax7
import Derived.Test.YtemjpmgfbnlkjaaXax8
namespace Go.Proofs.Ytemjpmgfbnlkjaa.XaB
open Go.RowKit Go.Proofs.Ytemjpmgfbnlkjaa.Xa Go.Proofs.Ytemjpmgfbnlkjaa.A Go.Proofs.Ytemjpmgfbnlkjaa.L Go.Proofs.YtemjpmgfbnlkjaaW.PrintWords Go.Proofs.YtemjpmgfbnlkjaaW.PrintLast Go.Proofs.YtemjpmgfbnlkjaaW.PrintMore
set_option linter.unusedSimpArgs false
set_option linter.unusedVariables false
theorem u64ok_nat {a : Nat} (h : a < 18446744073709551616) : u64ok (a : Int) = true := decide_eq_true ⟨by omega, by omega⟩
theorem add64_ok {x y c : Nat} (hx : x < B64) (hy : y < B64) (hc : c ≤ 1) : bits_Add64.f (x : Int) (y : Int) (c : Int) = some ((((x + y + c) % B64 : Nat) : Int), (((x + y + c) / B64 : Nat) : Int)) := by
  have hx' : x < 18446744073709551616 := hx
  have hy' : y < 18446744073709551616 := hy
  have hcc : (((c : Int) == 0) || ((c : Int) == 1)) = true := by
    rcases (by omega : c = 0 ∨ c = 1) with rfl | rfl <;> rfl
  unfold bits_Add64.f
  rw [u64ok_nat hx', u64ok_nat hy', hcc, if_pos (by rfl)]
  unfold B64
  rw [show ((x : Int) + (y : Int) + (c : Int)) = ((x + y + c : Nat) : Int) by omega]
  rfl
theorem sub64_ok {x y c : Nat} (hx : x < B64) (hy : y < B64) (hc : c ≤ 1) : bits_Sub64.f (x : Int) (y : Int) (c : Int) = some ((((x + B64 - y - c) % B64 : Nat) : Int), ((if x < y + c then 1 else 0 : Nat) : Int)) := by
  have hx' : x < 18446744073709551616 := hx
  have hy' : y < 18446744073709551616 := hy
  have hcc : (((c : Int) == 0) || ((c : Int) == 1)) = true := by
    rcases (by omega : c = 0 ∨ c = 1) with rfl | rfl <;> rfl
  unfold bits_Sub64.f
  rw [u64ok_nat hx', u64ok_nat hy', hcc, if_pos (by rfl)]
  unfold B64
  have e1 : ((x : Int) + 18446744073709551616 - (y : Int) - (c : Int)) % 18446744073709551616 = (((x + 18446744073709551616 - y - c) % 18446744073709551616 : Nat) : Int) := by omega
  have e2 : (if (x : Int) < (y : Int) + (c : Int) then (1 : Int) else 0) = ((if x < y + c then 1 else 0 : Nat) : Int) := by
    by_cases h : x < y + c
    · rw [if_pos (by omega), if_pos h]; rfl
    · rw [if_neg (by omega), if_neg h]; rfl
  rw [e1, e2]
theorem take_set_succ {l : List Int} {i : Nat} (x : Int) (hi : i < l.length) : (l.set i x).take (i + 1) = l.take i ++ [x] := by
  rw [take_get (by rw [List.length_set]; exact hi)]
  congr 1
  · rw [List.take_set, List.set_eq_of_length_le (by rw [List.length_take]; omega)]
  · simp [List.getD, hi]
/-! the program's sum -/
theorem add_l0 {a b : List Int} (ha : okl B64 a) (hb : okl B64 b) (hl : a.length ≤ 128) (hba : b.length ≤ a.length) : ∀ (n k i c : Nat) (out : List Int), i + n = a.length → n + 200 ≤ k → okl B64 out → out.length = a.length → c ≤ 1 →
    nv B64 (out.take i) + B64 ^ i * c = nv B64 (a.take i) + nv B64 (b.take i) →
    ∃ t, okl B64 t ∧ top t ∧ nv B64 t = nv B64 a + nv B64 b ∧ nat_Add.l0 k a b out (c : Int) (a.length : Int) (i : Int) = if 128 < t.length then some ([], some 20) else some (t, none) := by
  intro n
  induction n with
  | zero =>
    intro k i c out hi hk ho hlen hc hv
    obtain ⟨k, rfl⟩ : ∃ q, k = q + 1 := ⟨k - 1, by omega⟩
    have hoc : okl B64 (out ++ [(c : Int)]) := by
      rw [okl_append]
      refine ⟨ho, okl_cons.2 ⟨⟨by omega, ?_⟩, okl_nil _⟩⟩
      show _ < ((18446744073709551616 : Nat) : Int); omega
    obtain ⟨t, t1, t2, t3, t4⟩ := kept_ok hoc (by simp; omega) (k := k) (by simp; omega)
    refine ⟨t, t1, t2, ?_, ?_⟩
    · rw [t3, nv_snoc, hlen, Int.toNat_natCast]
      rw [List.take_of_length_le (by omega), List.take_of_length_le (by omega), List.take_of_length_le (by omega), show i = a.length by omega] at hv
      exact hv
    · rw [nat_Add.l0, if_neg (by omega), if_pos (by omega)]
      by_cases h : 128 < t.length
      · rw [if_pos h] at t4 ⊢; rw [bind_eq t4]
      · rw [if_neg h] at t4 ⊢; rw [bind_eq t4]
  | succ n ih =>
    intro k i c out hi hk ho hlen hc hv
    obtain ⟨k, rfl⟩ : ∃ q, k = q + 1 := ⟨k - 1, by omega⟩
    obtain ⟨x, hx, hxB, hxn⟩ := dig_at ha b64_pos i
    obtain ⟨y, hy, hyB, hyn⟩ := dig_at hb b64_pos i
    have hmod := Nat.mod_lt (x + y + c) b64_pos
    have hc' : (x + y + c) / B64 ≤ 1 := by
      have h1 : x + y + c < 2 * B64 := by omega
      have := (Nat.div_lt_iff_lt_mul b64_pos).2 h1
      omega
    have hset : okl B64 (out.set i (((x + y + c) % B64 : Nat) : Int)) := okl_set ho i ⟨by omega, by omega⟩
    have hstep := add_step (P := B64 ^ i) (B := B64) (x := x) (y := y) (d := (x + y + c) % B64) (c' := (x + y + c) / B64) hv (Nat.mod_add_div (x + y + c) B64)
    have hv2 : nv B64 ((out.set i (((x + y + c) % B64 : Nat) : Int)).take (i + 1)) + B64 ^ (i + 1) * ((x + y + c) / B64) = nv B64 (a.take (i + 1)) + nv B64 (b.take (i + 1)) := by
      rw [take_set_succ _ (by omega), nv_snoc, List.length_take, Nat.min_eq_left (by omega), nv_take_step, nv_take_step, hxn, hyn, Int.toNat_natCast, Nat.pow_succ]
      omega
    obtain ⟨t, t1, t2, t3, t4⟩ := ih k (i + 1) ((x + y + c) / B64) _ (by omega) (by omega) hset (by rw [List.length_set]; exact hlen) hc' hv2
    refine ⟨t, t1, t2, t3, ?_⟩
    rw [← t4, nat_Add.l0, if_pos (by omega)]
    have hgo : ∀ w : Int, w = (y : Int) → ((bits_Add64.f (rd a (i : Int)) w (c : Int)).bind fun bt => (if (i : Int) < (out.length : Int) then (nat_Add.l0 k a b (out.set ((i : Int) : Int).toNat bt.1) bt.2 (a.length : Int) (wrap64 ((i : Int) + 1))) else (none))) = nat_Add.l0 k a b (out.set i (((x + y + c) % B64 : Nat) : Int)) (((x + y + c) / B64 : Nat) : Int) (a.length : Int) ((i + 1 : Nat) : Int) := by
      rintro w rfl
      rw [hx, bind_eq (add64_ok hxB hyB hc), if_pos (by omega), Int.toNat_natCast, wrapi_id (n := (i : Int) + 1) (by omega) (by omega)]
      rfl
    by_cases hib : i < b.length
    · rw [if_pos (by omega), if_pos (by omega), if_pos (by omega)]
      exact hgo _ hy
    · rw [if_neg (by omega), if_pos (by omega), if_pos (by omega)]
      refine hgo 0 ?_
      have : b.getD i 0 = 0 := by simp [List.getD, hib]
      rw [this] at hyn
      rw [← hyn]; rfl
theorem add_l100 : ∀ (k : Nat) (a b out : List Int) (c n i : Int), nat_Add.l100 k a b out c n i = nat_Add.l0 k a b out c n i
  | 0, _, _, _, _, _, _ => rfl
  | k + 1, a, b, out, c, n, i => by
    rw [nat_Add.l100, nat_Add.l0]
    simp only [add_l100 k]
theorem Add_ok {a b : List Int} (ha : okl B64 a) (hb : okl B64 b) (hla : a.length ≤ 128) (hlb : b.length ≤ 128) (hv : vtwo a b = 0) {k : Nat} (hk : 400 ≤ k) :
    ∃ t, okl B64 t ∧ top t ∧ nv B64 t = nv B64 a + nv B64 b ∧ nat_Add.f k a b = if 128 < t.length then some ([], some 20) else some (t, none) := by
  have hval : nat_valid.f a b = some none := by rw [valid_ok (by omega) (by omega), hv]; rfl
  by_cases h : a.length < b.length
  · obtain ⟨t, t1, t2, t3, t4⟩ := add_l0 hb ha hlb (by omega) b.length k 0 0 (List.replicate b.length 0) (by omega) (by omega) (okl_zeros _ _ b64_pos) (by simp) (by omega) (by simp [nv])
    refine ⟨t, t1, t2, by omega, ?_⟩
    rw [← t4]
    unfold nat_Add.f
    rw [bind_eq hval, if_pos (by rfl), if_pos (by omega), if_pos (by omega), wrapi_id (n := (b.length : Int) + 1) (by omega) (by omega), if_pos (by omega), if_pos (by omega), Int.toNat_natCast]
    rfl
  · obtain ⟨t, t1, t2, t3, t4⟩ := add_l0 ha hb hla (by omega) a.length k 0 0 (List.replicate a.length 0) (by omega) (by omega) (okl_zeros _ _ b64_pos) (by simp) (by omega) (by simp [nv])
    refine ⟨t, t1, t2, t3, ?_⟩
    rw [← t4]
    unfold nat_Add.f
    rw [bind_eq hval, if_pos (by rfl), if_neg (by omega), if_pos (by omega), wrapi_id (n := (a.length : Int) + 1) (by omega) (by omega), if_pos (by omega), if_pos (by omega), Int.toNat_natCast, add_l100]
    rfl
/-! the reference's sum -/
theorem plus_l0 {a b : List Int} (ha : okl B32 a) (hb : okl B32 b) (hla : a.length ≤ 300) (hlb : b.length ≤ 300) : ∀ (n k i c : Nat) (acc : List Int), i + n = max a.length b.length → 2 * n + 400 ≤ k → okl B32 acc → acc.length = i → c ≤ 1 →
    nv B32 acc + B32 ^ i * c = nv B32 (a.take i) + nv B32 (b.take i) →
    ∃ p, numeralref02_Plus.l0 k a b acc (c : Int) (i : Int) = some p ∧ okl B32 p ∧ top p ∧ nv B32 p = nv B32 a + nv B32 b ∧ p.length ≤ 301 := by
  intro n
  induction n with
  | zero =>
    intro k i c acc hi hk ho hlen hc hv
    obtain ⟨k, rfl⟩ : ∃ q, k = q + 1 + 1 := ⟨k - 2, by omega⟩
    have e1 : (c : Int) % 4294967296 = (c : Int) := by omega
    have hoc : okl B32 (acc ++ [(c : Int)]) := by
      rw [okl_append]
      refine ⟨ho, okl_cons.2 ⟨⟨by omega, ?_⟩, okl_nil _⟩⟩
      show _ < ((4294967296 : Nat) : Int); omega
    obtain ⟨m, m1, m2, m3, m4⟩ := rtrim_ok (l := acc ++ [(c : Int)]) (by simp; omega) (k := k) (by simp; omega)
    refine ⟨_, ?_, okl_take hoc m, m3, ?_, by rw [List.length_take]; simp; omega⟩
    · rw [numeralref02_Plus.l0, if_neg (by omega), decide_eq_false (by omega), numeralref02_Plus.j1, if_neg (by decide), if_pos (by omega), e1, bind_eq m2]
    · rw [m4, nv_snoc, Int.toNat_natCast, hlen, hv, List.take_of_length_le (by omega), List.take_of_length_le (by omega)]
  | succ n ih =>
    intro k i c acc hi hk ho hlen hc hv
    obtain ⟨k, rfl⟩ : ∃ q, k = q + 1 + 1 := ⟨k - 2, by omega⟩
    obtain ⟨x, hx, hxB, hxn⟩ := dig_at ha b32_pos i
    obtain ⟨y, hy, hyB, hyn⟩ := dig_at hb b32_pos i
    have hxB' : x < 4294967296 := hxB
    have hyB' : y < 4294967296 := hyB
    have hc' : (x + y + c) / B32 ≤ 1 := by
      have h1 : x + y + c < 2 * B32 := by omega
      have := (Nat.div_lt_iff_lt_mul b32_pos).2 h1
      omega
    have hoc : okl B32 (acc ++ [(((x + y + c) % B32 : Nat) : Int)]) := by
      rw [okl_append]
      have := Nat.mod_lt (x + y + c) b32_pos
      exact ⟨ho, okl_cons.2 ⟨⟨by omega, by omega⟩, okl_nil _⟩⟩
    have hstep := add_step (P := B32 ^ i) (B := B32) (x := x) (y := y) (d := (x + y + c) % B32) (c' := (x + y + c) / B32) hv (Nat.mod_add_div (x + y + c) B32)
    have hv2 : nv B32 (acc ++ [(((x + y + c) % B32 : Nat) : Int)]) + B32 ^ (i + 1) * ((x + y + c) / B32) = nv B32 (a.take (i + 1)) + nv B32 (b.take (i + 1)) := by
      rw [nv_snoc, nv_take_step, nv_take_step, hxn, hyn, Int.toNat_natCast, Nat.pow_succ, hlen]
      omega
    obtain ⟨p, p1, p2⟩ := ih k (i + 1) ((x + y + c) / B32) _ (by omega) (by omega) hoc (by simp [hlen]) hc' hv2
    refine ⟨p, ?_, p2⟩
    have e1 : ((x + y + c : Nat) : Int) % 4294967296 = (((x + y + c) % B32 : Nat) : Int) := by unfold B32; omega
    have e2 : ((x + y + c : Nat) : Int) / 4294967296 = (((x + y + c) / B32 : Nat) : Int) := by unfold B32; omega
    have hx0 : ¬ i < a.length → x = 0 := by
      intro h
      have : a.getD i 0 = 0 := by simp [List.getD, h]
      rw [this] at hxn; exact hxn.symm
    have hy0 : ¬ i < b.length → y = 0 := by
      intro h
      have : b.getD i 0 = 0 := by simp [List.getD, h]
      rw [this] at hyn; exact hyn.symm
    have hj : numeralref02_Plus.l0 (k + 1 + 1) a b acc (c : Int) (i : Int) = numeralref02_Plus.j1 (k + 1) a b acc (c : Int) (i : Int) true := by
      rw [numeralref02_Plus.l0]
      by_cases h : i < a.length
      · rw [if_pos (by omega)]
      · rw [if_neg (by omega), decide_eq_true (by omega)]
    rw [hj, numeralref02_Plus.j1, if_pos rfl, hx, hy, wrapu_id (n := (x : Int)) (by omega) (by omega), wrapu_id (n := (y : Int)) (by omega) (by omega), wrapu_id (n := (c : Int) + (x : Int)) (by omega) (by omega), wrapu_id (n := (c : Int) + (y : Int)) (by omega) (by omega), wrapu_id (n := (c : Int) + (x : Int) + (y : Int)) (by omega) (by omega), wrapi_id (n := (i : Int) + 1) (by omega) (by omega), show (i : Int) + 1 = ((i + 1 : Nat) : Int) by omega]
    by_cases ha2 : i < a.length
    · rw [if_pos (by omega), if_pos (by omega)]
      by_cases hb2 : i < b.length
      · rw [if_pos (by omega), if_pos (by omega), show (c : Int) + (x : Int) + (y : Int) = ((x + y + c : Nat) : Int) by omega, e1, e2]
        exact p1
      · have := hy0 hb2
        rw [if_neg (by omega), if_pos (by omega), show (c : Int) + (x : Int) = ((x + y + c : Nat) : Int) by omega, e1, e2]
        exact p1
    · have := hx0 ha2
      rw [if_neg (by omega), if_pos (by omega), if_pos (by omega), if_pos (by omega), show (c : Int) + (y : Int) = ((x + y + c : Nat) : Int) by omega, e1, e2]
      exact p1
theorem plus_ok {a b : List Int} (ha : okl B32 a) (hb : okl B32 b) (hla : a.length ≤ 300) (hlb : b.length ≤ 300) {k : Nat} (hk : 1000 ≤ k) :
    ∃ p, numeralref02_Plus.f k a b = some p ∧ okl B32 p ∧ top p ∧ nv B32 p = nv B32 a + nv B32 b ∧ p.length ≤ 301 :=
  plus_l0 ha hb hla hlb (max a.length b.length) k 0 0 [] (by omega) (by omega) (okl_nil _) rfl (by omega) (by simp [nv])
theorem rAdd_ok {a b : List Int} (ha : okl B64 a) (hb : okl B64 b) (hla : a.length ≤ 128) (hlb : b.length ≤ 128) (hv : vtwo a b = 0) {k : Nat} (hk : 1000 ≤ k) :
    ∃ t, okl B64 t ∧ top t ∧ nv B64 t = nv B64 a + nv B64 b ∧ numeralref02_Add.f k a b = if 128 < t.length then some ([], 20) else some (t, 0) := by
  obtain ⟨p, p1, p2, p3, p4, p5⟩ := of_ok ha hla (k := k) (by omega)
  obtain ⟨q, q1, q2, q3, q4, q5⟩ := of_ok hb hlb (k := k) (by omega)
  obtain ⟨s, s1, s2, s3, s4, s5⟩ := plus_ok p2 q2 (by omega) (by omega) hk
  obtain ⟨t, t1, t2, t3, t4⟩ := words_ok s2 s3 (by omega) (k := k) (by omega)
  have htwo : numeralref02_two.f a b = some 0 := by rw [two_ok (by omega) (by omega), hv]
  refine ⟨t, t1, t2, by omega, ?_⟩
  unfold numeralref02_Add.f
  rw [bind_eq htwo, if_pos rfl, bind_eq p1, bind_eq q1, bind_eq s1]
  by_cases h : 128 < t.length
  · rw [if_pos h] at t4 ⊢; rw [bind_eq t4]
  · rw [if_neg h] at t4 ⊢; rw [bind_eq t4]
/-- Both sums answer alike. -/
theorem Add_both {a b : List Int} (ha : okl B64 a) (hb : okl B64 b) (hla : a.length < 1000000000000000) (hlb : b.length < 1000000000000000) {k : Nat} (hk : 1000 ≤ k) :
    ∃ (s : List Int) (c : Int), nat_Add.f k a b = some (s, errn c) ∧ numeralref02_Add.f k a b = some (s, c) ∧ s.length ≤ 128 := by
  by_cases hv : vtwo a b = 0
  · have hv' := hv
    unfold vtwo at hv'
    have h0 : vnum a = 0 := by
      by_cases h : vnum a = 0
      · exact h
      · rw [if_neg h] at hv'; exact hv'
    rw [if_pos h0] at hv'
    have la := ((vnum_zero a).1 h0).1
    have lb := ((vnum_zero b).1 hv').1
    obtain ⟨t, t1, t2, t3, t4⟩ := Add_ok ha hb la lb hv (k := k) (by omega)
    obtain ⟨u, u1, u2, u3, u4⟩ := rAdd_ok ha hb la lb hv hk
    obtain rfl := top_inj b64_one t1 u1 t2 u2 (by omega)
    by_cases h : 128 < t.length
    · rw [if_pos h] at t4 u4; exact ⟨[], 20, t4, u4, by simp⟩
    · rw [if_neg h] at t4 u4; exact ⟨t, 0, t4, u4, by omega⟩
  · refine ⟨[], vtwo a b, ?_, ?_, by simp⟩
    · unfold nat_Add.f
      rw [bind_eq (valid_ok hla hlb), if_neg (by rw [errn_isNone]; exact hv), errn_getD hv]
    · unfold numeralref02_Add.f
      rw [bind_eq (two_ok hla hlb), if_neg hv]
/-! the order -/
def cmpn (a b : Nat) : Int := if a < b then -1 else if a > b then 1 else 0
theorem cmp_step {B : Nat} (hB : 0 < B) {a b : List Int} (ha : okl B a) (hb : okl B b) (i : Nat) {x y : Nat} (hx : (a.getD i 0).toNat = x) (hy : (b.getD i 0).toNat = y) (hla : i < a.length) (hlb : i < b.length) :
    (x < y → nv B (a.take (i + 1)) < nv B (b.take (i + 1))) ∧ (y < x → nv B (b.take (i + 1)) < nv B (a.take (i + 1))) ∧ (x = y → cmpn (nv B (a.take (i + 1))) (nv B (b.take (i + 1))) = cmpn (nv B (a.take i)) (nv B (b.take i))) := by
  have h1 := nv_lt hB (okl_take ha i)
  have h2 := nv_lt hB (okl_take hb i)
  rw [List.length_take, Nat.min_eq_left (by omega)] at h1 h2
  rw [nv_take_step, nv_take_step, hx, hy]
  generalize nv B (a.take i) = p at *
  generalize nv B (b.take i) = q at *
  refine ⟨fun h => ?_, fun h => ?_, fun h => ?_⟩
  · have := Nat.mul_le_mul_left (B ^ i) (show x + 1 ≤ y from h)
    rw [Nat.mul_add, Nat.mul_one] at this
    omega
  · have := Nat.mul_le_mul_left (B ^ i) (show y + 1 ≤ x from h)
    rw [Nat.mul_add, Nat.mul_one] at this
    omega
  · subst h
    unfold cmpn
    generalize B ^ i * x = z
    by_cases h3 : p < q
    · rw [if_pos h3, if_pos (by omega)]
    · rw [if_neg h3, if_neg (by omega)]
      by_cases h4 : p > q
      · rw [if_pos h4, if_pos (by omega)]
      · rw [if_neg h4, if_neg (by omega)]
theorem cmp_l0 {B : Nat} (hB : 0 < B) {a b : List Int} (ha : okl B a) (hb : okl B b) (hlen : a.length = b.length) (hl : a.length < 1000000000000000) : ∀ (n k : Nat), n ≤ a.length → n + 1 ≤ k → nat_cmp.l0 k a b ((n : Int) - 1) = some (cmpn (nv B (a.take n)) (nv B (b.take n)))
  | 0, k + 1, hn, hk => by rw [nat_cmp.l0, if_neg (by omega)]; rfl
  | n + 1, k + 1, hn, hk => by
    obtain ⟨x, hx, hxB, hxn⟩ := dig_at ha hB n
    obtain ⟨y, hy, hyB, hyn⟩ := dig_at hb hB n
    obtain ⟨c1, c2, c3⟩ := cmp_step hB ha hb n hxn hyn (by omega) (by omega)
    rw [nat_cmp.l0, show ((n + 1 : Nat) : Int) - 1 = (n : Int) by omega, if_pos (by omega), if_pos (by omega), if_pos (by omega), if_pos (by omega), hx, hy]
    by_cases h1 : x < y
    · rw [if_pos (by omega)]; unfold cmpn; rw [if_pos (c1 h1)]
    · rw [if_neg (by omega)]
      by_cases h2 : y < x
      · have := c2 h2
        rw [if_pos (by omega)]; unfold cmpn; rw [if_neg (by omega), if_pos this]
      · rw [if_neg (by omega), wrapi_id (n := (n : Int) - 1) (by omega) (by omega), cmp_l0 hB ha hb hlen hl n k (by omega) (by omega), c3 (by omega)]
theorem rcmp_l0 {B : Nat} (hB : 0 < B) {a b : List Int} (ha : okl B a) (hb : okl B b) (hlen : a.length = b.length) (hl : a.length < 1000000000000000) : ∀ (n k : Nat), n ≤ a.length → n + 1 ≤ k → numeralref02_Compare.l0 k a b ((n : Int) - 1) = some (cmpn (nv B (a.take n)) (nv B (b.take n)))
  | 0, k + 1, hn, hk => by rw [numeralref02_Compare.l0, if_neg (by omega)]; rfl
  | n + 1, k + 1, hn, hk => by
    obtain ⟨x, hx, hxB, hxn⟩ := dig_at ha hB n
    obtain ⟨y, hy, hyB, hyn⟩ := dig_at hb hB n
    obtain ⟨c1, c2, c3⟩ := cmp_step hB ha hb n hxn hyn (by omega) (by omega)
    rw [numeralref02_Compare.l0, show ((n + 1 : Nat) : Int) - 1 = (n : Int) by omega, if_pos (by omega), if_pos (by omega), if_pos (by omega), if_pos (by omega), hx, hy]
    by_cases h1 : x < y
    · rw [if_pos (by omega)]; unfold cmpn; rw [if_pos (c1 h1)]
    · rw [if_neg (by omega)]
      by_cases h2 : y < x
      · have := c2 h2
        rw [if_pos (by omega)]; unfold cmpn; rw [if_neg (by omega), if_pos this]
      · rw [if_neg (by omega), wrapi_id (n := (n : Int) - 1) (by omega) (by omega), rcmp_l0 hB ha hb hlen hl n k (by omega) (by omega), c3 (by omega)]
theorem len_lt {B : Nat} (hB : 1 < B) {a b : List Int} (ha : okl B a) (hb : okl B b) (tb : top b) (h : a.length < b.length) : nv B a < nv B b := by
  have hne : b ≠ [] := by rintro rfl; simp at h
  have h1 := top_ge (by omega) hb tb hne
  have h2 := nv_lt (by omega : 0 < B) ha
  have h3 : B ^ a.length ≤ B ^ (b.length - 1) := Nat.pow_le_pow_right (by omega) (by omega)
  omega
theorem cmp_ok {B : Nat} (hB : 1 < B) {a b : List Int} (ha : okl B a) (hb : okl B b) (ta : top a) (tb : top b) (hl : a.length < 100000000000000) (hl2 : b.length < 100000000000000) {k : Nat} (hk : a.length + 2 ≤ k) : nat_cmp.f k a b = some (cmpn (nv B a) (nv B b)) := by
  unfold nat_cmp.f
  by_cases h : a.length = b.length
  · rw [if_pos (by omega), wrapi_id (n := (a.length : Int) - 1) (by omega) (by omega), cmp_l0 (by omega) ha hb h (by omega) a.length k (Nat.le_refl _) (by omega), List.take_length, List.take_of_length_le (by omega)]
  · rw [if_neg (by omega)]
    by_cases h2 : a.length < b.length
    · rw [if_pos (by omega)]; unfold cmpn; rw [if_pos (len_lt hB ha hb tb h2)]
    · have := len_lt hB hb ha ta (by omega)
      rw [if_neg (by omega)]; unfold cmpn; rw [if_neg (by omega), if_pos this]
theorem rcmp_ok {B : Nat} (hB : 1 < B) {a b : List Int} (ha : okl B a) (hb : okl B b) (ta : top a) (tb : top b) (hl : a.length < 100000000000000) (hl2 : b.length < 100000000000000) {k : Nat} (hk : a.length + 2 ≤ k) : numeralref02_Compare.f k a b = some (cmpn (nv B a) (nv B b)) := by
  unfold numeralref02_Compare.f
  by_cases h : a.length = b.length
  · rw [if_pos (by omega), wrapi_id (n := (a.length : Int) - 1) (by omega) (by omega), rcmp_l0 (by omega) ha hb h (by omega) a.length k (Nat.le_refl _) (by omega), List.take_length, List.take_of_length_le (by omega)]
  · rw [if_neg (by omega)]
    by_cases h2 : a.length < b.length
    · rw [if_pos (by omega)]; unfold cmpn; rw [if_pos (len_lt hB ha hb tb h2)]
    · have := len_lt hB hb ha ta (by omega)
      rw [if_neg (by omega)]; unfold cmpn; rw [if_neg (by omega), if_pos this]
theorem vtwo_zero {a b : List Int} (h : vtwo a b = 0) : (a.length ≤ 128 ∧ top a) ∧ (b.length ≤ 128 ∧ top b) := by
  unfold vtwo at h
  by_cases h0 : vnum a = 0
  · rw [if_pos h0] at h; exact ⟨(vnum_zero a).1 h0, (vnum_zero b).1 h⟩
  · rw [if_neg h0] at h; exact absurd h h0
theorem Cmp_both {a b : List Int} (ha : okl B64 a) (hb : okl B64 b) (hla : a.length < 1000000000000000) (hlb : b.length < 1000000000000000) {k : Nat} (hk : 1000 ≤ k) :
    ∃ (s : Int) (c : Int), nat_Cmp.f k a b = some (s, errn c) ∧ numeralref02_Cmp.f k a b = some (s, c) := by
  by_cases hv : vtwo a b = 0
  · obtain ⟨⟨la, ta⟩, lb, tb⟩ := vtwo_zero hv
    obtain ⟨p, p1, p2, p3, p4, p5⟩ := of_ok ha la (k := k) (by omega)
    obtain ⟨q, q1, q2, q3, q4, q5⟩ := of_ok hb lb (k := k) (by omega)
    refine ⟨cmpn (nv B64 a) (nv B64 b), 0, ?_, ?_⟩
    · unfold nat_Cmp.f
      rw [bind_eq (valid_ok hla hlb), hv, if_pos (by rfl), bind_eq (cmp_ok b64_one ha hb ta tb (by omega) (by omega) (by omega))]
      rfl
    · unfold numeralref02_Cmp.f
      rw [bind_eq (two_ok hla hlb), hv, if_pos rfl, bind_eq p1, bind_eq q1, bind_eq (rcmp_ok b32_one p2 q2 p3 q3 (by omega) (by omega) (by omega)), p4, q4]
  · refine ⟨0, vtwo a b, ?_, ?_⟩
    · unfold nat_Cmp.f
      rw [bind_eq (valid_ok hla hlb), if_neg (by rw [errn_isNone]; exact hv), errn_getD hv]
    · unfold numeralref02_Cmp.f
      rw [bind_eq (two_ok hla hlb), if_neg hv]
end Go.Proofs.Ytemjpmgfbnlkjaa.XaB
