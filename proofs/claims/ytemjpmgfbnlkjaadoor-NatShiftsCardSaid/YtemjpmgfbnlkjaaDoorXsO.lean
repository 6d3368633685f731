
/- The reference's quotients, bit by bit. -/
import Derived.Test.YtemjpmgfbnlkjaaDoorXsE

namespace Go.Proofs.YtemjpmgfbnlkjaaDoor.XsB
open Go.RowKit Go.Proofs.YtemjpmgfbnlkjaaDoor.Xs Go.Proofs.YtemjpmgfbnlkjaaDoor.A Go.Proofs.YtemjpmgfbnlkjaaDoor.L Go.Proofs.YtemjpmgfbnlkjaaDoorW.PrintWords Go.Proofs.YtemjpmgfbnlkjaaDoorW.PrintLast Go.Proofs.YtemjpmgfbnlkjaaDoorW.PrintMore
set_option linter.unusedSimpArgs false
set_option linter.unusedVariables false
theorem or_u32 (a b : Nat) (ha : a < 4294967296) (hb : b < 4294967296) : Go.bits .or .u32 (a : Int) (b : Int) = ((a ||| b : Nat) : Int) := by
  have hx : a ||| b < 2 ^ 32 := Nat.or_lt_two_pow (by omega) (by omega)
  have h1 : (BitVec.ofInt 32 (a : Int)).toNat = a := by
    rw [BitVec.ofInt_natCast, BitVec.toNat_ofNat]; exact Nat.mod_eq_of_lt (by omega)
  have h2 : (BitVec.ofInt 32 (b : Int)).toNat = b := by
    rw [BitVec.ofInt_natCast, BitVec.toNat_ofNat]; exact Nat.mod_eq_of_lt (by omega)
  show IntKind.u32.wrap ((BitVec.ofInt 32 (a : Int) ||| BitVec.ofInt 32 (b : Int)).toNat : Int) = _
  rw [BitVec.toNat_or, h1, h2]
  simp [IntKind.wrap, IntKind.signed, IntKind.bits]
  omega
theorem shl1_u32 (r : Nat) (h : r < 32) : shl .u32 1 (r : Int) = ((2 ^ r : Nat) : Int) := by
  have h1 : 2 ^ r < 2 ^ 32 := Nat.pow_lt_pow_right (by decide) h
  unfold shl
  have e : min (r : Int).toNat IntKind.u32.bits = r := by simp [IntKind.bits]; omega
  have e2 : (1 : Int) * 2 ^ r = ((2 ^ r : Nat) : Int) := by rw [Int.one_mul, Int.natCast_pow]; rfl
  rw [e, e2]
  generalize 2 ^ r = z at *
  have h3 : z < 4294967296 := h1
  simp [IntKind.wrap, IntKind.signed, IntKind.bits]
  omega
theorem dig_val {B : Nat} (hB : 0 < B) {l : List Int} (h : okl B l) (j : Nat) : (l.getD j 0).toNat = nv B l / B ^ j % B := by
  have hp : 0 < B ^ j := Nat.pow_pos hB
  rcases Nat.lt_or_ge j l.length with hj | hj
  · have h1 := nv_take_drop B l j (by omega)
    have h2 := nv_lt hB (okl_take h j)
    rw [List.length_take, Nat.min_eq_left (by omega)] at h2
    rw [h1, Nat.add_mul_div_left _ _ hp, Nat.div_eq_of_lt h2, Nat.zero_add, drop_get hj, nv, Nat.add_mul_mod_self_left]
    have := okl_get h j hB
    rw [Nat.mod_eq_of_lt (by omega)]
  · have h0 : l.getD j 0 = 0 := by simp [List.getD, hj]
    have h2 := nv_lt hB h
    have h3 : B ^ l.length ≤ B ^ j := Nat.pow_le_pow_right hB hj
    rw [h0, Nat.div_eq_of_lt (by omega), Nat.zero_mod]; rfl
/-- The bit i set, where the lowest bits up to it are 0. -/
theorem set_bit {q : List Int} (ho : okl B32 q) {i : Nat} (hi : i / 32 < q.length) (hz : nv B32 q % 2 ^ (i + 1) = 0) :
    ∃ w : Nat, rd q ((i / 32 : Nat) : Int) = (w : Int) ∧ Go.bits .or .u32 (w : Int) ((2 ^ (i % 32) : Nat) : Int) = ((w + 2 ^ (i % 32) : Nat) : Int) ∧ okl B32 (q.set (i / 32) ((w + 2 ^ (i % 32) : Nat) : Int)) ∧ nv B32 (q.set (i / 32) ((w + 2 ^ (i % 32) : Nat) : Int)) = nv B32 q + 2 ^ i := by
  obtain ⟨w, hw, hwB, hwn⟩ := dig_at ho b32_pos (i / 32)
  have hwB' : w < 4294967296 := hwB
  have hr : i % 32 + 1 ≤ 32 := by omega
  have e32 : B32 = 2 ^ 32 := rfl
  have hpow : B32 ^ (i / 32) = 2 ^ (32 * (i / 32)) := by rw [e32, ← Nat.pow_mul]
  have hsplit : 2 ^ (i + 1) = 2 ^ (i % 32 + 1) * 2 ^ (32 * (i / 32)) := by rw [← Nat.pow_add]; congr 1; omega
  obtain ⟨t, ht⟩ : ∃ t, nv B32 q = 2 ^ (i + 1) * t := ⟨nv B32 q / 2 ^ (i + 1), by have := Nat.div_add_mod (nv B32 q) (2 ^ (i + 1)); omega⟩
  have hval := dig_val b32_pos ho (i / 32)
  rw [hwn, ht, hpow, hsplit, Nat.mul_right_comm, Nat.mul_div_cancel _ (Nat.two_pow_pos _)] at hval
  have hw0 : w % 2 ^ (i % 32 + 1) = 0 := by
    rw [hval, e32, Nat.mod_mod_of_dvd _ (Nat.pow_dvd_pow 2 hr), Nat.mul_mod_right]
  obtain ⟨s, hs⟩ : ∃ s, w = 2 ^ (i % 32 + 1) * s := ⟨w / 2 ^ (i % 32 + 1), by have := Nat.div_add_mod w (2 ^ (i % 32 + 1)); omega⟩
  have hlt : 2 ^ (i % 32) < 2 ^ (i % 32 + 1) := Nat.pow_lt_pow_right (by decide) (by omega)
  have hor : w ||| 2 ^ (i % 32) = w + 2 ^ (i % 32) := by rw [hs, Nat.two_pow_add_eq_or_of_lt hlt]
  have h32 : 2 ^ (i % 32) < 4294967296 := by
    have : 2 ^ (i % 32) ≤ 2 ^ 31 := Nat.pow_le_pow_right (by decide) (by omega)
    omega
  have hfit : w + 2 ^ (i % 32) < 4294967296 := by
    rw [← hor]; exact Nat.or_lt_two_pow (n := 32) hwB' h32
  refine ⟨w, hw, by rw [or_u32 w _ hwB' h32, hor], okl_set ho _ ⟨by omega, by show _ < ((4294967296 : Nat) : Int); omega⟩, ?_⟩
  have h1 := nv_set B32 (l := q) (i := i / 32) ((w + 2 ^ (i % 32) : Nat) : Int) hi
  rw [hwn, Int.toNat_natCast, Nat.mul_add] at h1
  have h2 : B32 ^ (i / 32) * 2 ^ (i % 32) = 2 ^ i := by rw [hpow, ← Nat.pow_add]; congr 1; omega
  omega
theorem cmpn_ge (a b : Nat) : cmpn a b ≥ 0 ↔ b ≤ a := by
  have := cmpn_neg a b
  omega
end Go.Proofs.YtemjpmgfbnlkjaaDoor.XsB
