
/- Plain facts on words of 64 bits: shifts, and, or, and-not, in the printed functions' own spelling. -/
import Derived.Laws.Bits64b
import Derived.Laws.BitsLemmas
import Derived.Lib.TrailingZeros
import Derived.Lib.BitFns
import Derived.Test.YtemjpmgfbnlkjaaDoorWMore
import Derived.Test.YtemjpmgfbnlkjaaDoorWLast
namespace Go.Proofs.YtemjpmgfbnlkjaaDoor.A
open Go.RowKit Go.Proofs.YtemjpmgfbnlkjaaDoorW.PrintMore Go.Proofs.YtemjpmgfbnlkjaaDoorW.PrintWords Go.Proofs.YtemjpmgfbnlkjaaDoorW.PrintLast
set_option linter.unusedSimpArgs false

theorem wrapu (n : Int) : IntKind.u64.wrap n = n % 18446744073709551616 := by simp [IntKind.wrap, IntKind.signed, IntKind.bits]
theorem wrapu_id {n : Int} (h0 : 0 ≤ n) (h1 : n < 18446744073709551616) : IntKind.u64.wrap n = n := by rw [wrapu]; omega
theorem wrapi_id {n : Int} (h0 : -9223372036854775808 ≤ n) (h1 : n < 9223372036854775808) : wrap64 n = n := by unfold wrap64; omega
theorem wf_u64 {a : Int} (h : (Lit.int .u64 a).wf = true) : 0 ≤ a ∧ a < 18446744073709551616 := by
  simp only [Lit.wf, IntKind.min, IntKind.max, IntKind.signed, IntKind.bits, Bool.and_eq_true, decide_eq_true_eq] at h
  simp at h; omega
theorem wf_i64 {a : Int} (h : (Lit.int .i64 a).wf = true) : -9223372036854775808 ≤ a ∧ a < 9223372036854775808 := by
  simp only [Lit.wf, IntKind.min, IntKind.max, IntKind.signed, IntKind.bits, Bool.and_eq_true, decide_eq_true_eq] at h
  simp at h; omega
theorem pow_le64 {n : Nat} (h : n ≤ 64) : 2 ^ n ≤ 18446744073709551616 := by
  have : 2 ^ n ≤ 2 ^ 64 := Nat.pow_le_pow_right (by decide) h
  omega
theorem shl_u (x n : Nat) (h : n ≤ 64) : shl .u64 (x : Int) (n : Int) = ((x * 2 ^ n % 18446744073709551616 : Nat) : Int) := by
  unfold shl
  have e : min (n : Int).toNat IntKind.u64.bits = n := by simp [IntKind.bits]; omega
  have e2 : (x : Int) * 2 ^ n = ((x * 2 ^ n : Nat) : Int) := by rw [Int.natCast_mul, Int.natCast_pow]; rfl
  rw [e, wrapu, e2]
  omega
theorem shl_fit (x n : Nat) (h : n ≤ 64) (hx : x * 2 ^ n < 18446744073709551616) : shl .u64 (x : Int) (n : Int) = ((x * 2 ^ n : Nat) : Int) := by
  rw [shl_u x n h, Nat.mod_eq_of_lt hx]
theorem shl1 (n : Nat) (h : n < 64) : shl .u64 1 (n : Int) = ((2 ^ n : Nat) : Int) := by
  have h1 : 2 ^ n < 18446744073709551616 := by
    have : 2 ^ n < 2 ^ 64 := Nat.pow_lt_pow_right (by decide) h
    omega
  have := shl_fit 1 n (by omega) (by omega)
  simpa using this
theorem shr_u (x n : Nat) (h : n ≤ 64) : shr .u64 (x : Int) (n : Int) = ((x / 2 ^ n : Nat) : Int) := by
  unfold shr
  have e : min (n : Int).toNat IntKind.u64.bits = n := by simp [IntKind.bits]; omega
  rw [e, Int.natCast_ediv, Int.natCast_pow]
  rfl
theorem mask_u (k : Nat) (h : k < 64) : IntKind.u64.wrap (shl .u64 1 (k : Int) - 1) = ((2 ^ k - 1 : Nat) : Int) := by
  rw [shl1 k h]
  have h1 := pow_le64 (show k ≤ 64 by omega)
  have h2 : 0 < 2 ^ k := Nat.two_pow_pos k
  rw [wrapu_id] <;> omega
theorem and_u (a b : Nat) (ha : a < 18446744073709551616) (hb : b < 18446744073709551616) : Go.bits .and .u64 (a : Int) (b : Int) = ((a &&& b : Nat) : Int) := bits_and_u64_nat a b ha hb
theorem or_u (a b : Nat) (ha : a < 18446744073709551616) (hb : b < 18446744073709551616) : Go.bits .or .u64 (a : Int) (b : Int) = ((a ||| b : Nat) : Int) := bits_or_u64_nat a b ha hb
theorem and_mask (a k : Nat) (ha : a < 18446744073709551616) (hk : k ≤ 64) : Go.bits .and .u64 (a : Int) ((2 ^ k - 1 : Nat) : Int) = ((a % 2 ^ k : Nat) : Int) := by
  have h1 := pow_le64 hk
  have h2 : 0 < 2 ^ k := Nat.two_pow_pos k
  rw [and_u a _ ha (by omega), Nat.and_two_pow_sub_one_eq_mod]
theorem or_disj (a b k : Nat) (hb : b < 2 ^ k) (h : a * 2 ^ k + b < 18446744073709551616) : Go.bits .or .u64 ((a * 2 ^ k : Nat) : Int) (b : Int) = ((a * 2 ^ k + b : Nat) : Int) := by
  rw [or_u _ _ (by omega) (by omega)]
  congr 1
  rw [Nat.mul_comm a, ← Nat.two_pow_add_eq_or_of_lt hb]
theorem or_disj' (a b k : Nat) (hb : b < 2 ^ k) (h : a * 2 ^ k + b < 18446744073709551616) : Go.bits .or .u64 (b : Int) ((a * 2 ^ k : Nat) : Int) = ((a * 2 ^ k + b : Nat) : Int) := by
  rw [or_u _ _ (by omega) (by omega), Nat.or_comm]
  congr 1
  rw [Nat.mul_comm a, ← Nat.two_pow_add_eq_or_of_lt hb]
theorem andNot_def (a b : Int) : Go.bits .andNot .u64 a b = IntKind.u64.wrap ((BitVec.ofInt 64 a &&& ~~~ BitVec.ofInt 64 b).toNat : Int) := by
  rfl
theorem andNot_pow (a k : Nat) (ha : a < 2 ^ (k + 1)) (hk : k < 64) : Go.bits .andNot .u64 (a : Int) ((2 ^ k : Nat) : Int) = ((a % 2 ^ k : Nat) : Int) := by
  have h1 := pow_le64 (show k + 1 ≤ 64 by omega)
  have h2 : 0 < 2 ^ k := Nat.two_pow_pos k
  have hs : 2 ^ (k + 1) = 2 ^ k * 2 := Nat.pow_succ ..
  rw [andNot_def]
  have e1 : (BitVec.ofInt 64 (a : Int)).toNat = a := by
    rw [BitVec.ofInt_natCast, BitVec.toNat_ofNat]; exact Nat.mod_eq_of_lt (by omega)
  have e2 : (BitVec.ofInt 64 ((2 ^ k : Nat) : Int)).toNat = 2 ^ k := by
    rw [BitVec.ofInt_natCast, BitVec.toNat_ofNat]; exact Nat.mod_eq_of_lt (by omega)
  have e3 : (BitVec.ofInt 64 (a : Int) &&& ~~~ BitVec.ofInt 64 ((2 ^ k : Nat) : Int)).toNat = a % 2 ^ k := by
    apply Nat.eq_of_testBit_eq
    intro i
    rw [Nat.testBit_mod_two_pow]
    show (BitVec.ofInt 64 (a : Int) &&& ~~~ BitVec.ofInt 64 ((2 ^ k : Nat) : Int)).toNat.testBit i = _
    rw [← BitVec.getLsbD, BitVec.getLsbD_and, BitVec.getLsbD_not, BitVec.getLsbD, BitVec.getLsbD, e1, e2]
    rw [Nat.testBit_two_pow]
    by_cases hi : i < k
    · have : ¬ k = i := by omega
      simp [hi, this]; intro _; omega
    · by_cases hk2 : k = i
      · subst hk2; simp
      · have hlt : a.testBit i = false := Nat.testBit_lt_two_pow (Nat.lt_of_lt_of_le ha (Nat.pow_le_pow_right (by decide) (by omega)))
        simp [hlt]
  rw [e3, wrapu_id (by omega) (by have := Nat.mod_le a (2 ^ k); omega)]
theorem bitLen_zero : Lib.bitLen 0 = 0 := by decide
theorem bitLen_le64 (x : Nat) (h : x < 18446744073709551616) : Lib.bitLen x ≤ 64 := Lib.bitLen_le x 64 (by decide) (by omega)
theorem blen_spec : ∀ (b x : Nat), Lib.bitLen x = b → 0 < x → x < 18446744073709551616 → 0 < b ∧ 2 ^ (b - 1) ≤ x ∧ x < 2 ^ b
  | 0, x, hb, h0, h => by
    have := Lib.bitLen_half x (by omega) (by omega)
    omega
  | b + 1, x, hb, h0, h => by
    have hh := Lib.bitLen_half x (by omega) (by omega)
    by_cases h1 : x / 2 = 0
    · have hx : x = 1 := by omega
      subst hx
      have : Lib.bitLen (1 / 2) = 0 := by decide
      have : b = 0 := by omega
      subst this
      exact ⟨by omega, by decide, by decide⟩
    · have ih := blen_spec b (x / 2) (by omega) (by omega) (by omega)
      obtain ⟨i0, i1, i2⟩ := ih
      have e1 : 2 ^ (b + 1) = 2 ^ b * 2 := Nat.pow_succ ..
      have e2 : 2 ^ b = 2 ^ (b - 1) * 2 := by rw [← Nat.pow_succ]; congr 1; omega
      refine ⟨by omega, ?_, by omega⟩
      show 2 ^ b ≤ x
      omega
theorem ctz_spec {x : Nat} (h0 : 0 < x) (h : x < 18446744073709551616) : ∃ m, x = (2 * m + 1) * 2 ^ Lib.ctz 64 x ∧ Lib.ctz 64 x < 64 := by
  unfold Lib.ctz
  rw [if_neg (by omega)]
  obtain ⟨m, h1, h2⟩ := Lib.ctzFrom_spec 64 x h0 (by omega)
  exact ⟨m, by rw [Nat.mul_comm]; exact h1, h2⟩
theorem u64ok_of {a : Nat} (h : a < 18446744073709551616) : decide ((0 : Int) ≤ (a : Int) ∧ (a : Int) < 18446744073709551616) = true := decide_eq_true ⟨by omega, by omega⟩
end Go.Proofs.YtemjpmgfbnlkjaaDoor.A
