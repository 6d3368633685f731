
/- Sums, differences, the order: by the program's printed functions and the reference's. -/
import Derived.Test.YtemjpmgfbnlkjaaXrZ
import Derived.Test.YtemjpmgfbnlkjaaXrx1
import Derived.Test.YtemjpmgfbnlkjaaXrx3
import Derived.Test.YtemjpmgfbnlkjaaXrx5
namespace Go.Proofs.Ytemjpmgfbnlkjaa.XrB
open Go.RowKit Go.Proofs.Ytemjpmgfbnlkjaa.Xr Go.Proofs.Ytemjpmgfbnlkjaa.A Go.Proofs.Ytemjpmgfbnlkjaa.L Go.Proofs.YtemjpmgfbnlkjaaW.PrintWords Go.Proofs.YtemjpmgfbnlkjaaW.PrintLast Go.Proofs.YtemjpmgfbnlkjaaW.PrintMore
set_option linter.unusedSimpArgs false
set_option linter.unusedVariables false
theorem u64ok_nat {a : Nat} (h : a < 18446744073709551616) : u64ok (a : Int) = true := decide_eq_true ⟨by omega, by omega⟩
theorem add64_ok {x y c : Nat} (hx : x < B64) (hy : y < B64) (hc : c ≤ 1) : bits_Add64.f (x : Int) (y : Int) (c : Int) = some ((((x + y + c) % B64 : Nat) : Int), (((x + y + c) / B64 : Nat) : Int)) := by
  have hx' : x < 18446744073709551616 := hx
  have hy' : y < 18446744073709551616 := hy
  have hcc : (((c : Int) == 0) || ((c : Int) == 1)) = true := by
    rcases (by omega : c = 0 ∨ c = 1) with rfl | rfl <;> rfl
  unfold bits_Add64.f
  rw [u64ok_nat hx', u64ok_nat hy', hcc, if_pos (by rfl)]
  unfold B64
  rw [show ((x : Int) + (y : Int) + (c : Int)) = ((x + y + c : Nat) : Int) by omega]
  rfl
theorem sub64_ok {x y c : Nat} (hx : x < B64) (hy : y < B64) (hc : c ≤ 1) : bits_Sub64.f (x : Int) (y : Int) (c : Int) = some ((((x + B64 - y - c) % B64 : Nat) : Int), ((if x < y + c then 1 else 0 : Nat) : Int)) := by
  have hx' : x < 18446744073709551616 := hx
  have hy' : y < 18446744073709551616 := hy
  have hcc : (((c : Int) == 0) || ((c : Int) == 1)) = true := by
    rcases (by omega : c = 0 ∨ c = 1) with rfl | rfl <;> rfl
  unfold bits_Sub64.f
  rw [u64ok_nat hx', u64ok_nat hy', hcc, if_pos (by rfl)]
  unfold B64
  have e1 : ((x : Int) + 18446744073709551616 - (y : Int) - (c : Int)) % 18446744073709551616 = (((x + 18446744073709551616 - y - c) % 18446744073709551616 : Nat) : Int) := by omega
  have e2 : (if (x : Int) < (y : Int) + (c : Int) then (1 : Int) else 0) = ((if x < y + c then 1 else 0 : Nat) : Int) := by
    by_cases h : x < y + c
    · rw [if_pos (by omega), if_pos h]; rfl
    · rw [if_neg (by omega), if_neg h]; rfl
  rw [e1, e2]
theorem take_set_succ {l : List Int} {i : Nat} (x : Int) (hi : i < l.length) : (l.set i x).take (i + 1) = l.take i ++ [x] := by
  rw [take_get (by rw [List.length_set]; exact hi)]
  congr 1
  · rw [List.take_set, List.set_eq_of_length_le (by rw [List.length_take]; omega)]
  · simp [List.getD, hi]
/-! the program's sum -/
theorem add_l0 {a b : List Int} (ha : okl B64 a) (hb : okl B64 b) (hl : a.length ≤ 128) (hba : b.length ≤ a.length) : ∀ (n k i c : Nat) (out : List Int), i + n = a.length → n + 200 ≤ k → okl B64 out → out.length = a.length → c ≤ 1 →
    nv B64 (out.take i) + B64 ^ i * c = nv B64 (a.take i) + nv B64 (b.take i) →
    ∃ t, okl B64 t ∧ top t ∧ nv B64 t = nv B64 a + nv B64 b ∧ nat_Add.l0 k a b out (c : Int) (a.length : Int) (i : Int) = if 128 < t.length then some ([], some 20) else some (t, none) := by
  intro n
  induction n with
  | zero =>
    intro k i c out hi hk ho hlen hc hv
    obtain ⟨k, rfl⟩ : ∃ q, k = q + 1 := ⟨k - 1, by omega⟩
    have hoc : okl B64 (out ++ [(c : Int)]) := by
      rw [okl_append]
      refine ⟨ho, okl_cons.2 ⟨⟨by omega, ?_⟩, okl_nil _⟩⟩
      show _ < ((18446744073709551616 : Nat) : Int); omega
    obtain ⟨t, t1, t2, t3, t4⟩ := kept_ok hoc (by simp; omega) (k := k) (by simp; omega)
    refine ⟨t, t1, t2, ?_, ?_⟩
    · rw [t3, nv_snoc, hlen, Int.toNat_natCast]
      rw [List.take_of_length_le (by omega), List.take_of_length_le (by omega), List.take_of_length_le (by omega), show i = a.length by omega] at hv
      exact hv
    · rw [nat_Add.l0, if_neg (by omega), if_pos (by omega)]
      by_cases h : 128 < t.length
      · rw [if_pos h] at t4 ⊢; rw [bind_eq t4]
      · rw [if_neg h] at t4 ⊢; rw [bind_eq t4]
  | succ n ih =>
    intro k i c out hi hk ho hlen hc hv
    obtain ⟨k, rfl⟩ : ∃ q, k = q + 1 := ⟨k - 1, by omega⟩
    obtain ⟨x, hx, hxB, hxn⟩ := dig_at ha b64_pos i
    obtain ⟨y, hy, hyB, hyn⟩ := dig_at hb b64_pos i
    have hmod := Nat.mod_lt (x + y + c) b64_pos
    have hc' : (x + y + c) / B64 ≤ 1 := by
      have h1 : x + y + c < 2 * B64 := by omega
      have := (Nat.div_lt_iff_lt_mul b64_pos).2 h1
      omega
    have hset : okl B64 (out.set i (((x + y + c) % B64 : Nat) : Int)) := okl_set ho i ⟨by omega, by omega⟩
    have hstep := add_step (P := B64 ^ i) (B := B64) (x := x) (y := y) (d := (x + y + c) % B64) (c' := (x + y + c) / B64) hv (Nat.mod_add_div (x + y + c) B64)
    have hv2 : nv B64 ((out.set i (((x + y + c) % B64 : Nat) : Int)).take (i + 1)) + B64 ^ (i + 1) * ((x + y + c) / B64) = nv B64 (a.take (i + 1)) + nv B64 (b.take (i + 1)) := by
      rw [take_set_succ _ (by omega), nv_snoc, List.length_take, Nat.min_eq_left (by omega), nv_take_step, nv_take_step, hxn, hyn, Int.toNat_natCast, Nat.pow_succ]
      omega
    obtain ⟨t, t1, t2, t3, t4⟩ := ih k (i + 1) ((x + y + c) / B64) _ (by omega) (by omega) hset (by rw [List.length_set]; exact hlen) hc' hv2
    refine ⟨t, t1, t2, t3, ?_⟩
    rw [← t4, nat_Add.l0, if_pos (by omega)]
    have hgo : ∀ w : Int, w = (y : Int) → ((bits_Add64.f (rd a (i : Int)) w (c : Int)).bind fun bt => (if (i : Int) < (out.length : Int) then (nat_Add.l0 k a b (out.set ((i : Int) : Int).toNat bt.1) bt.2 (a.length : Int) (wrap64 ((i : Int) + 1))) else (none))) = nat_Add.l0 k a b (out.set i (((x + y + c) % B64 : Nat) : Int)) (((x + y + c) / B64 : Nat) : Int) (a.length : Int) ((i + 1 : Nat) : Int) := by
      rintro w rfl
      rw [hx, bind_eq (add64_ok hxB hyB hc), if_pos (by omega), Int.toNat_natCast, wrapi_id (n := (i : Int) + 1) (by omega) (by omega)]
      rfl
    by_cases hib : i < b.length
    · rw [if_pos (by omega), if_pos (by omega), if_pos (by omega)]
      exact hgo _ hy
    · rw [if_neg (by omega), if_pos (by omega), if_pos (by omega)]
      refine hgo 0 ?_
      have : b.getD i 0 = 0 := by simp [List.getD, hib]
      rw [this] at hyn
      rw [← hyn]; rfl
theorem add_l100 : ∀ (k : Nat) (a b out : List Int) (c n i : Int), nat_Add.l100 k a b out c n i = nat_Add.l0 k a b out c n i
  | 0, _, _, _, _, _, _ => rfl
  | k + 1, a, b, out, c, n, i => by
    rw [nat_Add.l100, nat_Add.l0]
    simp only [add_l100 k]
theorem Add_ok {a b : List Int} (ha : okl B64 a) (hb : okl B64 b) (hla : a.length ≤ 128) (hlb : b.length ≤ 128) (hv : vtwo a b = 0) {k : Nat} (hk : 400 ≤ k) :
    ∃ t, okl B64 t ∧ top t ∧ nv B64 t = nv B64 a + nv B64 b ∧ nat_Add.f k a b = if 128 < t.length then some ([], some 20) else some (t, none) := by
  have hval : nat_valid.f a b = some none := by rw [valid_ok (by omega) (by omega), hv]; rfl
  by_cases h : a.length < b.length
  · obtain ⟨t, t1, t2, t3, t4⟩ := add_l0 hb ha hlb (by omega) b.length k 0 0 (List.replicate b.length 0) (by omega) (by omega) (okl_zeros _ _ b64_pos) (by simp) (by omega) (by simp [nv])
    refine ⟨t, t1, t2, by omega, ?_⟩
    rw [← t4]
    unfold nat_Add.f
    rw [bind_eq hval, if_pos (by rfl), if_pos (by omega), if_pos (by omega), wrapi_id (n := (b.length : Int) + 1) (by omega) (by omega), if_pos (by omega), if_pos (by omega), Int.toNat_natCast]
    rfl
  · obtain ⟨t, t1, t2, t3, t4⟩ := add_l0 ha hb hla (by omega) a.length k 0 0 (List.replicate a.length 0) (by omega) (by omega) (okl_zeros _ _ b64_pos) (by simp) (by omega) (by simp [nv])
    refine ⟨t, t1, t2, t3, ?_⟩
    rw [← t4]
    unfold nat_Add.f
    rw [bind_eq hval, if_pos (by rfl), if_neg (by omega), if_pos (by omega), wrapi_id (n := (a.length : Int) + 1) (by omega) (by omega), if_pos (by omega), if_pos (by omega), Int.toNat_natCast, add_l100]
    rfl
/-! the reference's sum -/
/-! the order -/
def cmpn (a b : Nat) : Int := if a < b then -1 else if a > b then 1 else 0
theorem cmp_step {B : Nat} (hB : 0 < B) {a b : List Int} (ha : okl B a) (hb : okl B b) (i : Nat) {x y : Nat} (hx : (a.getD i 0).toNat = x) (hy : (b.getD i 0).toNat = y) (hla : i < a.length) (hlb : i < b.length) :
    (x < y → nv B (a.take (i + 1)) < nv B (b.take (i + 1))) ∧ (y < x → nv B (b.take (i + 1)) < nv B (a.take (i + 1))) ∧ (x = y → cmpn (nv B (a.take (i + 1))) (nv B (b.take (i + 1))) = cmpn (nv B (a.take i)) (nv B (b.take i))) := by
  have h1 := nv_lt hB (okl_take ha i)
  have h2 := nv_lt hB (okl_take hb i)
  rw [List.length_take, Nat.min_eq_left (by omega)] at h1 h2
  rw [nv_take_step, nv_take_step, hx, hy]
  generalize nv B (a.take i) = p at *
  generalize nv B (b.take i) = q at *
  refine ⟨fun h => ?_, fun h => ?_, fun h => ?_⟩
  · have := Nat.mul_le_mul_left (B ^ i) (show x + 1 ≤ y from h)
    rw [Nat.mul_add, Nat.mul_one] at this
    omega
  · have := Nat.mul_le_mul_left (B ^ i) (show y + 1 ≤ x from h)
    rw [Nat.mul_add, Nat.mul_one] at this
    omega
  · subst h
    unfold cmpn
    generalize B ^ i * x = z
    by_cases h3 : p < q
    · rw [if_pos h3, if_pos (by omega)]
    · rw [if_neg h3, if_neg (by omega)]
      by_cases h4 : p > q
      · rw [if_pos h4, if_pos (by omega)]
      · rw [if_neg h4, if_neg (by omega)]
theorem cmp_l0 {B : Nat} (hB : 0 < B) {a b : List Int} (ha : okl B a) (hb : okl B b) (hlen : a.length = b.length) (hl : a.length < 1000000000000000) : ∀ (n k : Nat), n ≤ a.length → n + 1 ≤ k → nat_cmp.l0 k a b ((n : Int) - 1) = some (cmpn (nv B (a.take n)) (nv B (b.take n)))
  | 0, k + 1, hn, hk => by rw [nat_cmp.l0, if_neg (by omega)]; rfl
  | n + 1, k + 1, hn, hk => by
    obtain ⟨x, hx, hxB, hxn⟩ := dig_at ha hB n
    obtain ⟨y, hy, hyB, hyn⟩ := dig_at hb hB n
    obtain ⟨c1, c2, c3⟩ := cmp_step hB ha hb n hxn hyn (by omega) (by omega)
    rw [nat_cmp.l0, show ((n + 1 : Nat) : Int) - 1 = (n : Int) by omega, if_pos (by omega), if_pos (by omega), if_pos (by omega), if_pos (by omega), hx, hy]
    by_cases h1 : x < y
    · rw [if_pos (by omega)]; unfold cmpn; rw [if_pos (c1 h1)]
    · rw [if_neg (by omega)]
      by_cases h2 : y < x
      · have := c2 h2
        rw [if_pos (by omega)]; unfold cmpn; rw [if_neg (by omega), if_pos this]
      · rw [if_neg (by omega), wrapi_id (n := (n : Int) - 1) (by omega) (by omega), cmp_l0 hB ha hb hlen hl n k (by omega) (by omega), c3 (by omega)]
theorem len_lt {B : Nat} (hB : 1 < B) {a b : List Int} (ha : okl B a) (hb : okl B b) (tb : top b) (h : a.length < b.length) : nv B a < nv B b := by
  have hne : b ≠ [] := by rintro rfl; simp at h
  have h1 := top_ge (by omega) hb tb hne
  have h2 := nv_lt (by omega : 0 < B) ha
  have h3 : B ^ a.length ≤ B ^ (b.length - 1) := Nat.pow_le_pow_right (by omega) (by omega)
  omega
theorem cmp_ok {B : Nat} (hB : 1 < B) {a b : List Int} (ha : okl B a) (hb : okl B b) (ta : top a) (tb : top b) (hl : a.length < 100000000000000) (hl2 : b.length < 100000000000000) {k : Nat} (hk : a.length + 2 ≤ k) : nat_cmp.f k a b = some (cmpn (nv B a) (nv B b)) := by
  unfold nat_cmp.f
  by_cases h : a.length = b.length
  · rw [if_pos (by omega), wrapi_id (n := (a.length : Int) - 1) (by omega) (by omega), cmp_l0 (by omega) ha hb h (by omega) a.length k (Nat.le_refl _) (by omega), List.take_length, List.take_of_length_le (by omega)]
  · rw [if_neg (by omega)]
    by_cases h2 : a.length < b.length
    · rw [if_pos (by omega)]; unfold cmpn; rw [if_pos (len_lt hB ha hb tb h2)]
    · have := len_lt hB hb ha ta (by omega)
      rw [if_neg (by omega)]; unfold cmpn; rw [if_neg (by omega), if_pos this]
theorem vtwo_zero {a b : List Int} (h : vtwo a b = 0) : (a.length ≤ 128 ∧ top a) ∧ (b.length ≤ 128 ∧ top b) := by
  unfold vtwo at h
  by_cases h0 : vnum a = 0
  · rw [if_pos h0] at h; exact ⟨(vnum_zero a).1 h0, (vnum_zero b).1 h⟩
  · rw [if_neg h0] at h; exact absurd h h0
end Go.Proofs.Ytemjpmgfbnlkjaa.XrB
