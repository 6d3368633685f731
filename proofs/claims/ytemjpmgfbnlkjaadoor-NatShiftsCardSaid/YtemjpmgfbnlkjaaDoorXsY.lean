
/- Sums, differences, the order: by the program's printed functions and the reference's. -/
import Derived.Test.YtemjpmgfbnlkjaaDoorXsZ
import Derived.Test.YtemjpmgfbnlkjaaDoorXsx10
import Derived.Test.YtemjpmgfbnlkjaaDoorXsx8
import Derived.Test.YtemjpmgfbnlkjaaDoorXsx9
namespace Go.Proofs.YtemjpmgfbnlkjaaDoor.XsB
open Go.RowKit Go.Proofs.YtemjpmgfbnlkjaaDoor.Xs Go.Proofs.YtemjpmgfbnlkjaaDoor.A Go.Proofs.YtemjpmgfbnlkjaaDoor.L Go.Proofs.YtemjpmgfbnlkjaaDoorW.PrintWords Go.Proofs.YtemjpmgfbnlkjaaDoorW.PrintLast Go.Proofs.YtemjpmgfbnlkjaaDoorW.PrintMore
set_option linter.unusedSimpArgs false
set_option linter.unusedVariables false
theorem u64ok_nat {a : Nat} (h : a < 18446744073709551616) : u64ok (a : Int) = true := decide_eq_true ⟨by omega, by omega⟩
theorem add64_ok {x y c : Nat} (hx : x < B64) (hy : y < B64) (hc : c ≤ 1) : bits_Add64.f (x : Int) (y : Int) (c : Int) = some ((((x + y + c) % B64 : Nat) : Int), (((x + y + c) / B64 : Nat) : Int)) := by
  have hx' : x < 18446744073709551616 := hx
  have hy' : y < 18446744073709551616 := hy
  have hcc : (((c : Int) == 0) || ((c : Int) == 1)) = true := by
    rcases (by omega : c = 0 ∨ c = 1) with rfl | rfl <;> rfl
  unfold bits_Add64.f
  rw [u64ok_nat hx', u64ok_nat hy', hcc, if_pos (by rfl)]
  unfold B64
  rw [show ((x : Int) + (y : Int) + (c : Int)) = ((x + y + c : Nat) : Int) by omega]
  rfl
theorem sub64_ok {x y c : Nat} (hx : x < B64) (hy : y < B64) (hc : c ≤ 1) : bits_Sub64.f (x : Int) (y : Int) (c : Int) = some ((((x + B64 - y - c) % B64 : Nat) : Int), ((if x < y + c then 1 else 0 : Nat) : Int)) := by
  have hx' : x < 18446744073709551616 := hx
  have hy' : y < 18446744073709551616 := hy
  have hcc : (((c : Int) == 0) || ((c : Int) == 1)) = true := by
    rcases (by omega : c = 0 ∨ c = 1) with rfl | rfl <;> rfl
  unfold bits_Sub64.f
  rw [u64ok_nat hx', u64ok_nat hy', hcc, if_pos (by rfl)]
  unfold B64
  have e1 : ((x : Int) + 18446744073709551616 - (y : Int) - (c : Int)) % 18446744073709551616 = (((x + 18446744073709551616 - y - c) % 18446744073709551616 : Nat) : Int) := by omega
  have e2 : (if (x : Int) < (y : Int) + (c : Int) then (1 : Int) else 0) = ((if x < y + c then 1 else 0 : Nat) : Int) := by
    by_cases h : x < y + c
    · rw [if_pos (by omega), if_pos h]; rfl
    · rw [if_neg (by omega), if_neg h]; rfl
  rw [e1, e2]
theorem take_set_succ {l : List Int} {i : Nat} (x : Int) (hi : i < l.length) : (l.set i x).take (i + 1) = l.take i ++ [x] := by
  rw [take_get (by rw [List.length_set]; exact hi)]
  congr 1
  · rw [List.take_set, List.set_eq_of_length_le (by rw [List.length_take]; omega)]
  · simp [List.getD, hi]
/-! the program's sum -/
/-! the reference's sum -/
/-! the order -/
def cmpn (a b : Nat) : Int := if a < b then -1 else if a > b then 1 else 0
theorem cmp_step {B : Nat} (hB : 0 < B) {a b : List Int} (ha : okl B a) (hb : okl B b) (i : Nat) {x y : Nat} (hx : (a.getD i 0).toNat = x) (hy : (b.getD i 0).toNat = y) (hla : i < a.length) (hlb : i < b.length) :
    (x < y → nv B (a.take (i + 1)) < nv B (b.take (i + 1))) ∧ (y < x → nv B (b.take (i + 1)) < nv B (a.take (i + 1))) ∧ (x = y → cmpn (nv B (a.take (i + 1))) (nv B (b.take (i + 1))) = cmpn (nv B (a.take i)) (nv B (b.take i))) := by
  have h1 := nv_lt hB (okl_take ha i)
  have h2 := nv_lt hB (okl_take hb i)
  rw [List.length_take, Nat.min_eq_left (by omega)] at h1 h2
  rw [nv_take_step, nv_take_step, hx, hy]
  generalize nv B (a.take i) = p at *
  generalize nv B (b.take i) = q at *
  refine ⟨fun h => ?_, fun h => ?_, fun h => ?_⟩
  · have := Nat.mul_le_mul_left (B ^ i) (show x + 1 ≤ y from h)
    rw [Nat.mul_add, Nat.mul_one] at this
    omega
  · have := Nat.mul_le_mul_left (B ^ i) (show y + 1 ≤ x from h)
    rw [Nat.mul_add, Nat.mul_one] at this
    omega
  · subst h
    unfold cmpn
    generalize B ^ i * x = z
    by_cases h3 : p < q
    · rw [if_pos h3, if_pos (by omega)]
    · rw [if_neg h3, if_neg (by omega)]
      by_cases h4 : p > q
      · rw [if_pos h4, if_pos (by omega)]
      · rw [if_neg h4, if_neg (by omega)]
theorem cmp_l0 {B : Nat} (hB : 0 < B) {a b : List Int} (ha : okl B a) (hb : okl B b) (hlen : a.length = b.length) (hl : a.length < 1000000000000000) : ∀ (n k : Nat), n ≤ a.length → n + 1 ≤ k → nat_cmp.l0 k a b ((n : Int) - 1) = some (cmpn (nv B (a.take n)) (nv B (b.take n)))
  | 0, k + 1, hn, hk => by rw [nat_cmp.l0, if_neg (by omega)]; rfl
  | n + 1, k + 1, hn, hk => by
    obtain ⟨x, hx, hxB, hxn⟩ := dig_at ha hB n
    obtain ⟨y, hy, hyB, hyn⟩ := dig_at hb hB n
    obtain ⟨c1, c2, c3⟩ := cmp_step hB ha hb n hxn hyn (by omega) (by omega)
    rw [nat_cmp.l0, show ((n + 1 : Nat) : Int) - 1 = (n : Int) by omega, if_pos (by omega), if_pos (by omega), if_pos (by omega), if_pos (by omega), hx, hy]
    by_cases h1 : x < y
    · rw [if_pos (by omega)]; unfold cmpn; rw [if_pos (c1 h1)]
    · rw [if_neg (by omega)]
      by_cases h2 : y < x
      · have := c2 h2
        rw [if_pos (by omega)]; unfold cmpn; rw [if_neg (by omega), if_pos this]
      · rw [if_neg (by omega), wrapi_id (n := (n : Int) - 1) (by omega) (by omega), cmp_l0 hB ha hb hlen hl n k (by omega) (by omega), c3 (by omega)]
theorem len_lt {B : Nat} (hB : 1 < B) {a b : List Int} (ha : okl B a) (hb : okl B b) (tb : top b) (h : a.length < b.length) : nv B a < nv B b := by
  have hne : b ≠ [] := by rintro rfl; simp at h
  have h1 := top_ge (by omega) hb tb hne
  have h2 := nv_lt (by omega : 0 < B) ha
  have h3 : B ^ a.length ≤ B ^ (b.length - 1) := Nat.pow_le_pow_right (by omega) (by omega)
  omega
theorem cmp_ok {B : Nat} (hB : 1 < B) {a b : List Int} (ha : okl B a) (hb : okl B b) (ta : top a) (tb : top b) (hl : a.length < 100000000000000) (hl2 : b.length < 100000000000000) {k : Nat} (hk : a.length + 2 ≤ k) : nat_cmp.f k a b = some (cmpn (nv B a) (nv B b)) := by
  unfold nat_cmp.f
  by_cases h : a.length = b.length
  · rw [if_pos (by omega), wrapi_id (n := (a.length : Int) - 1) (by omega) (by omega), cmp_l0 (by omega) ha hb h (by omega) a.length k (Nat.le_refl _) (by omega), List.take_length, List.take_of_length_le (by omega)]
  · rw [if_neg (by omega)]
    by_cases h2 : a.length < b.length
    · rw [if_pos (by omega)]; unfold cmpn; rw [if_pos (len_lt hB ha hb tb h2)]
    · have := len_lt hB hb ha ta (by omega)
      rw [if_neg (by omega)]; unfold cmpn; rw [if_neg (by omega), if_pos this]
theorem vtwo_zero {a b : List Int} (h : vtwo a b = 0) : (a.length ≤ 128 ∧ top a) ∧ (b.length ≤ 128 ∧ top b) := by
  unfold vtwo at h
  by_cases h0 : vnum a = 0
  · rw [if_pos h0] at h; exact ⟨(vnum_zero a).1 h0, (vnum_zero b).1 h⟩
  · rw [if_neg h0] at h; exact absurd h h0
end Go.Proofs.YtemjpmgfbnlkjaaDoor.XsB
