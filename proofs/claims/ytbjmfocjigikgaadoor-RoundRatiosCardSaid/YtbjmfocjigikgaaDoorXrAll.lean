/- My texts A, L, Q, Rq, XrB, XrC, XrD, XrR, XrP, XrK, XrV, XrW, XrT, XrG, XrPo, XrZ, XrY, XrU, XrE, XrO, XrF, XrFr, XrWh, XrRw, XrRt, merged. -/
import Derived.Laws.Bits64b
import Derived.Laws.BitsLemmas
import Derived.Lib.TrailingZeros
import Derived.Lib.BitFns
import Derived.Test.YtbjmfocjigikgaaDoorWMore
import Derived.Test.YtbjmfocjigikgaaDoorWLast
import Derived.Test.YtbjmfocjigikgaaDoorWWords
import Derived.Test.YtbjmfocjigikgaaDoorXrx1
import Derived.Test.YtbjmfocjigikgaaDoorXrx2
import Derived.Test.YtbjmfocjigikgaaDoorXrx3
import Derived.Test.YtbjmfocjigikgaaDoorXrx6
import Derived.Test.YtbjmfocjigikgaaDoorXrx7
import Derived.Test.YtbjmfocjigikgaaDoorXrx9
import Derived.Test.YtbjmfocjigikgaaDoorXrx10
import Derived.Test.YtbjmfocjigikgaaDoorXrx12
import Derived.Test.YtbjmfocjigikgaaDoorXrx4
import Derived.Test.YtbjmfocjigikgaaDoorXrx8
import Derived.Test.YtbjmfocjigikgaaDoorXrx11
import Derived.Test.YtbjmfocjigikgaaDoorXrx13
import Derived.Test.YtbjmfocjigikgaaDoorXrx5
section
namespace Go.Proofs.YtbjmfocjigikgaaDoor.A
open Go.RowKit Go.Proofs.YtbjmfocjigikgaaDoorW.PrintMore Go.Proofs.YtbjmfocjigikgaaDoorW.PrintWords Go.Proofs.YtbjmfocjigikgaaDoorW.PrintLast
set_option linter.unusedSimpArgs false

theorem wrapu (n : Int) : IntKind.u64.wrap n = n % 18446744073709551616 := by simp [IntKind.wrap, IntKind.signed, IntKind.bits]
theorem wrapu_id {n : Int} (h0 : 0 ≤ n) (h1 : n < 18446744073709551616) : IntKind.u64.wrap n = n := by rw [wrapu]; omega
theorem wrapi_id {n : Int} (h0 : -9223372036854775808 ≤ n) (h1 : n < 9223372036854775808) : wrap64 n = n := by unfold wrap64; omega
theorem wf_u64 {a : Int} (h : (Lit.int .u64 a).wf = true) : 0 ≤ a ∧ a < 18446744073709551616 := by
  simp only [Lit.wf, IntKind.min, IntKind.max, IntKind.signed, IntKind.bits, Bool.and_eq_true, decide_eq_true_eq] at h
  simp at h; omega
theorem pow_le64 {n : Nat} (h : n ≤ 64) : 2 ^ n ≤ 18446744073709551616 := by
  have : 2 ^ n ≤ 2 ^ 64 := Nat.pow_le_pow_right (by decide) h
  omega
theorem shl_u (x n : Nat) (h : n ≤ 64) : shl .u64 (x : Int) (n : Int) = ((x * 2 ^ n % 18446744073709551616 : Nat) : Int) := by
  unfold shl
  have e : min (n : Int).toNat IntKind.u64.bits = n := by simp [IntKind.bits]; omega
  have e2 : (x : Int) * 2 ^ n = ((x * 2 ^ n : Nat) : Int) := by rw [Int.natCast_mul, Int.natCast_pow]; rfl
  rw [e, wrapu, e2]
  omega
theorem shl_fit (x n : Nat) (h : n ≤ 64) (hx : x * 2 ^ n < 18446744073709551616) : shl .u64 (x : Int) (n : Int) = ((x * 2 ^ n : Nat) : Int) := by
  rw [shl_u x n h, Nat.mod_eq_of_lt hx]
theorem shl1 (n : Nat) (h : n < 64) : shl .u64 1 (n : Int) = ((2 ^ n : Nat) : Int) := by
  have h1 : 2 ^ n < 18446744073709551616 := by
    have : 2 ^ n < 2 ^ 64 := Nat.pow_lt_pow_right (by decide) h
    omega
  have := shl_fit 1 n (by omega) (by omega)
  simpa using this
theorem shr_u (x n : Nat) (h : n ≤ 64) : shr .u64 (x : Int) (n : Int) = ((x / 2 ^ n : Nat) : Int) := by
  unfold shr
  have e : min (n : Int).toNat IntKind.u64.bits = n := by simp [IntKind.bits]; omega
  rw [e, Int.natCast_ediv, Int.natCast_pow]
  rfl
theorem mask_u (k : Nat) (h : k < 64) : IntKind.u64.wrap (shl .u64 1 (k : Int) - 1) = ((2 ^ k - 1 : Nat) : Int) := by
  rw [shl1 k h]
  have h1 := pow_le64 (show k ≤ 64 by omega)
  have h2 : 0 < 2 ^ k := Nat.two_pow_pos k
  rw [wrapu_id] <;> omega
theorem and_u (a b : Nat) (ha : a < 18446744073709551616) (hb : b < 18446744073709551616) : Go.bits .and .u64 (a : Int) (b : Int) = ((a &&& b : Nat) : Int) := bits_and_u64_nat a b ha hb
theorem or_u (a b : Nat) (ha : a < 18446744073709551616) (hb : b < 18446744073709551616) : Go.bits .or .u64 (a : Int) (b : Int) = ((a ||| b : Nat) : Int) := bits_or_u64_nat a b ha hb
theorem and_mask (a k : Nat) (ha : a < 18446744073709551616) (hk : k ≤ 64) : Go.bits .and .u64 (a : Int) ((2 ^ k - 1 : Nat) : Int) = ((a % 2 ^ k : Nat) : Int) := by
  have h1 := pow_le64 hk
  have h2 : 0 < 2 ^ k := Nat.two_pow_pos k
  rw [and_u a _ ha (by omega), Nat.and_two_pow_sub_one_eq_mod]
theorem or_disj (a b k : Nat) (hb : b < 2 ^ k) (h : a * 2 ^ k + b < 18446744073709551616) : Go.bits .or .u64 ((a * 2 ^ k : Nat) : Int) (b : Int) = ((a * 2 ^ k + b : Nat) : Int) := by
  rw [or_u _ _ (by omega) (by omega)]
  congr 1
  rw [Nat.mul_comm a, ← Nat.two_pow_add_eq_or_of_lt hb]
theorem or_disj' (a b k : Nat) (hb : b < 2 ^ k) (h : a * 2 ^ k + b < 18446744073709551616) : Go.bits .or .u64 (b : Int) ((a * 2 ^ k : Nat) : Int) = ((a * 2 ^ k + b : Nat) : Int) := by
  rw [or_u _ _ (by omega) (by omega), Nat.or_comm]
  congr 1
  rw [Nat.mul_comm a, ← Nat.two_pow_add_eq_or_of_lt hb]
theorem bitLen_le64 (x : Nat) (h : x < 18446744073709551616) : Lib.bitLen x ≤ 64 := Lib.bitLen_le x 64 (by decide) (by omega)
theorem blen_spec : ∀ (b x : Nat), Lib.bitLen x = b → 0 < x → x < 18446744073709551616 → 0 < b ∧ 2 ^ (b - 1) ≤ x ∧ x < 2 ^ b
  | 0, x, hb, h0, h => by
    have := Lib.bitLen_half x (by omega) (by omega)
    omega
  | b + 1, x, hb, h0, h => by
    have hh := Lib.bitLen_half x (by omega) (by omega)
    by_cases h1 : x / 2 = 0
    · have hx : x = 1 := by omega
      subst hx
      have : Lib.bitLen (1 / 2) = 0 := by decide
      have : b = 0 := by omega
      subst this
      exact ⟨by omega, by decide, by decide⟩
    · have ih := blen_spec b (x / 2) (by omega) (by omega) (by omega)
      obtain ⟨i0, i1, i2⟩ := ih
      have e1 : 2 ^ (b + 1) = 2 ^ b * 2 := Nat.pow_succ ..
      have e2 : 2 ^ b = 2 ^ (b - 1) * 2 := by rw [← Nat.pow_succ]; congr 1; omega
      refine ⟨by omega, ?_, by omega⟩
      show 2 ^ b ≤ x
      omega
theorem ctz_spec {x : Nat} (h0 : 0 < x) (h : x < 18446744073709551616) : ∃ m, x = (2 * m + 1) * 2 ^ Lib.ctz 64 x ∧ Lib.ctz 64 x < 64 := by
  unfold Lib.ctz
  rw [if_neg (by omega)]
  obtain ⟨m, h1, h2⟩ := Lib.ctzFrom_spec 64 x h0 (by omega)
  exact ⟨m, by rw [Nat.mul_comm]; exact h1, h2⟩
theorem u64ok_of {a : Nat} (h : a < 18446744073709551616) : decide ((0 : Int) ≤ (a : Int) ∧ (a : Int) < 18446744073709551616) = true := decide_eq_true ⟨by omega, by omega⟩
end Go.Proofs.YtbjmfocjigikgaaDoor.A
end
section
namespace Go.Proofs.YtbjmfocjigikgaaDoor.L
set_option linter.unusedVariables false
/-- The value of a row of digits in base B, the lowest first. -/
def nv (B : Nat) : List Int → Nat
  | [] => 0
  | x :: l => x.toNat + B * nv B l
/-- All are digits. -/
def okl (B : Nat) (l : List Int) : Prop := ∀ x ∈ l, 0 ≤ x ∧ x < (B : Int)
/-- No nought on top. -/
def top (l : List Int) : Prop := ∀ x, l.getLast? = some x → x ≠ 0
theorem okl_nil (B : Nat) : okl B [] := fun x h => by cases h
theorem okl_cons {B : Nat} {x : Int} {l : List Int} : okl B (x :: l) ↔ (0 ≤ x ∧ x < (B : Int)) ∧ okl B l := by
  unfold okl; simp
theorem okl_append {B : Nat} {a b : List Int} : okl B (a ++ b) ↔ okl B a ∧ okl B b := by
  unfold okl; simp only [List.mem_append]
  exact ⟨fun h => ⟨fun x hx => h x (.inl hx), fun x hx => h x (.inr hx)⟩, fun h x hx => hx.elim (h.1 x) (h.2 x)⟩
theorem okl_take {B : Nat} {l : List Int} (h : okl B l) (n : Nat) : okl B (l.take n) := fun x hx => h x (List.mem_of_mem_take hx)
theorem okl_zeros (B n : Nat) (hB : 0 < B) : okl B (List.replicate n 0) := by
  intro x hx
  rw [List.mem_replicate] at hx
  omega
theorem okl_set {B : Nat} {l : List Int} (h : okl B l) (i : Nat) {x : Int} (hx : 0 ≤ x ∧ x < (B : Int)) : okl B (l.set i x) := by
  intro y hy
  rcases List.mem_or_eq_of_mem_set hy with h1 | h1
  · exact h y h1
  · subst h1; exact hx
theorem okl_get {B : Nat} {l : List Int} (h : okl B l) (i : Nat) (hB : 0 < B) : 0 ≤ l.getD i 0 ∧ l.getD i 0 < (B : Int) := by
  rcases Nat.lt_or_ge i l.length with hi | hi
  · have : l.getD i 0 = l[i] := by simp [List.getD, hi]
    rw [this]; exact h _ (List.getElem_mem hi)
  · have : l.getD i 0 = 0 := by simp [List.getD, hi]
    rw [this]; omega
theorem nv_append (B : Nat) (b : List Int) : ∀ a : List Int, nv B (a ++ b) = nv B a + B ^ a.length * nv B b
  | [] => by simp [nv]
  | x :: l => by
    rw [List.cons_append, nv, nv, nv_append B b l, List.length_cons, Nat.pow_succ, Nat.mul_add, Nat.mul_comm (B ^ l.length) B, Nat.mul_assoc, Nat.add_assoc]
theorem nv_lt {B : Nat} (hB : 0 < B) : ∀ {l : List Int}, okl B l → nv B l < B ^ l.length
  | [], _ => by simp [nv]
  | x :: l, h => by
    obtain ⟨hx, hl⟩ := okl_cons.1 h
    have ih := nv_lt hB hl
    rw [nv, List.length_cons, Nat.pow_succ, Nat.mul_comm (B ^ l.length)]
    have h1 : nv B l + 1 ≤ B ^ l.length := ih
    have h2 := Nat.mul_le_mul_left B h1
    rw [Nat.mul_add, Nat.mul_one] at h2
    omega
theorem nv_zeros (B : Nat) : ∀ n, nv B (List.replicate n 0) = 0
  | 0 => rfl
  | n + 1 => by rw [List.replicate_succ, nv, nv_zeros B n]; rfl
theorem nv_take_drop (B : Nat) (l : List Int) (i : Nat) (hi : i ≤ l.length) : nv B l = nv B (l.take i) + B ^ i * nv B (l.drop i) := by
  have h := nv_append B (l.drop i) (l.take i)
  rw [List.take_append_drop, List.length_take, Nat.min_eq_left hi] at h
  exact h
theorem drop_get {l : List Int} {i : Nat} (hi : i < l.length) : l.drop i = l.getD i 0 :: l.drop (i + 1) := by
  rw [List.drop_eq_getElem_cons hi]
  simp [List.getD, hi]
theorem take_get {l : List Int} {i : Nat} (hi : i < l.length) : l.take (i + 1) = l.take i ++ [l.getD i 0] := by
  rw [List.take_succ_eq_append_getElem hi]
  simp [List.getD, hi]
theorem nv_take_succ (B : Nat) {l : List Int} {i : Nat} (hi : i < l.length) : nv B (l.take (i + 1)) = nv B (l.take i) + B ^ i * (l.getD i 0).toNat := by
  rw [take_get hi, nv_append, List.length_take, Nat.min_eq_left (by omega)]
  simp [nv]
theorem nv_snoc (B : Nat) (l : List Int) (x : Int) : nv B (l ++ [x]) = nv B l + B ^ l.length * x.toNat := by
  rw [nv_append]; simp [nv]
theorem nv_set (B : Nat) : ∀ {l : List Int} {i : Nat} (x : Int), i < l.length → nv B (l.set i x) + B ^ i * (l.getD i 0).toNat = nv B l + B ^ i * x.toNat
  | [], _, _, h => by simp at h
  | y :: l, 0, x, _ => by simp [nv]; omega
  | y :: l, i + 1, x, h => by
    have ih := nv_set B (l := l) (i := i) x (by simpa using h)
    have e1 : (y :: l).getD (i + 1) 0 = l.getD i 0 := by simp
    rw [List.set_cons_succ, nv, nv, e1, Nat.pow_succ, Nat.mul_comm (B ^ i) B, Nat.mul_assoc, Nat.mul_assoc]
    have := congrArg (B * ·) ih
    simp only [Nat.mul_add] at this
    omega
theorem top_nil : top [] := fun x h => by simp at h
theorem top_snoc {l : List Int} {x : Int} (h : x ≠ 0) : top (l ++ [x]) := fun y hy => by simp at hy; omega
theorem top_ge {B : Nat} (hB : 0 < B) {l : List Int} (hl : okl B l) (ht : top l) (hne : l ≠ []) : B ^ (l.length - 1) ≤ nv B l := by
  obtain ⟨m, x, rfl⟩ : ∃ m x, l = m ++ [x] := ⟨l.dropLast, l.getLast hne, (List.dropLast_concat_getLast hne).symm⟩
  have hx : x ≠ 0 := ht x (by simp)
  have hx2 := (hl x (by simp)).1
  rw [nv_snoc, List.length_append, List.length_singleton, Nat.add_sub_cancel]
  have : 1 ≤ x.toNat := by omega
  have := Nat.mul_le_mul_left (B ^ m.length) this
  omega
theorem top_length {B : Nat} (hB : 1 < B) {a : List Int} (ha : okl B a) (ta : top a) (n : Nat) : a.length ≤ n ↔ nv B a < B ^ n := by
  have hB0 : 0 < B := by omega
  constructor
  · intro h
    exact Nat.lt_of_lt_of_le (nv_lt hB0 ha) (Nat.pow_le_pow_right hB0 h)
  · intro h
    rcases Nat.lt_or_ge n a.length with hlt | hge
    · exfalso
      have hne : a ≠ [] := by rintro rfl; simp at hlt
      have h1 := top_ge hB0 ha ta hne
      have h3 : B ^ n ≤ B ^ (a.length - 1) := Nat.pow_le_pow_right hB0 (by omega)
      omega
    · exact hge
theorem nv_eq_zero {B : Nat} (hB : 1 < B) {a : List Int} (ha : okl B a) (ta : top a) : nv B a = 0 ↔ a = [] := by
  have := top_length hB ha ta 0
  rw [Nat.pow_zero] at this
  constructor
  · intro h
    have h1 := this.2 (by omega)
    exact List.length_eq_zero_iff.1 (by omega)
  · rintro rfl; rfl
/-- The digits of a value, without a nought on top. -/
def dig (B : Nat) : Nat → Nat → List Int
  | 0, _ => []
  | f + 1, n => if n = 0 then [] else ((n % B : Nat) : Int) :: dig B f (n / B)
end Go.Proofs.YtbjmfocjigikgaaDoor.L
end
section
namespace Go.Proofs.YtbjmfocjigikgaaDoor.Q
open Go.Proofs.YtbjmfocjigikgaaDoor.A
set_option linter.unusedVariables false
/-- m by two to the c, to the nearest, half to even. -/
def rhe (m c : Nat) : Nat := if 2 ^ c < 2 * (m % 2 ^ c) ∨ (2 * (m % 2 ^ c) = 2 ^ c ∧ m / 2 ^ c % 2 = 1) then m / 2 ^ c + 1 else m / 2 ^ c
/-- m times two to the e on the grid of two to the last. -/
def gridv (m : Nat) (e last : Int) : Nat := if last ≤ e then m * 2 ^ (e - last).toNat else rhe m (last - e).toNat
/-- The exponent of the last bit of a format with F bits behind the first one, and L the least. -/
def lastOf (F : Nat) (L : Int) (m : Nat) (e : Int) : Int := max ((Lib.bitLen m : Int) - 1 + e - F) L
/-- The bits without a sign, if there were no greatest. -/
def bitsv (F : Nat) (L : Int) (m : Nat) (e : Int) : Nat := (lastOf F L m e - L).toNat * 2 ^ F + gridv m e (lastOf F L m e)
end Go.Proofs.YtbjmfocjigikgaaDoor.Q
end
section
namespace Go.Proofs.YtbjmfocjigikgaaDoor.Q
open Go.Proofs.YtbjmfocjigikgaaDoor.A
set_option linter.unusedVariables false
/-- x by y, to the nearest, half to even; with a little more: half goes up. -/
def rq (x y : Nat) (more : Bool) : Nat := if y < 2 * (x % y) ∨ (2 * (x % y) = y ∧ (more = true ∨ x / y % 2 = 1)) then x / y + 1 else x / y
theorem cross_div {x y x' y' : Nat} (hy : 0 < y) (hy' : 0 < y') (h : x * y' = x' * y) : x / y = x' / y' ∧ (x % y) * y' = (x' % y') * y := by
  have e1 : x / y = x' / y' := by
    have h1 : x * y' / (y * y') = x / y := Nat.mul_div_mul_right x y hy'
    have h2 : x' * y / (y' * y) = x' / y' := Nat.mul_div_mul_right x' y' hy
    rw [← h1, ← h2, h, Nat.mul_comm y y']
  refine ⟨e1, ?_⟩
  have h1 := Nat.mul_mod_mul_right y' x y
  have h2 := Nat.mul_mod_mul_right y x' y'
  rw [← h1, ← h2, h, Nat.mul_comm y y']
theorem rq_cross {x y x' y' : Nat} (hy : 0 < y) (hy' : 0 < y') (h : x * y' = x' * y) (more : Bool) : rq x y more = rq x' y' more := by
  obtain ⟨h1, h2⟩ := cross_div hy hy' h
  have hlt : (y < 2 * (x % y)) ↔ (y' < 2 * (x' % y')) := by
    have a1 : y * y' < 2 * (x % y) * y' ↔ y < 2 * (x % y) := Nat.mul_lt_mul_right hy'
    have a2 : y' * y < 2 * (x' % y') * y ↔ y' < 2 * (x' % y') := Nat.mul_lt_mul_right hy
    rw [← a1, ← a2, Nat.mul_assoc, h2, Nat.mul_assoc, Nat.mul_comm y y']
  have heq : (2 * (x % y) = y) ↔ (2 * (x' % y') = y') := by
    have a1 : 2 * (x % y) * y' = y * y' ↔ 2 * (x % y) = y := Nat.mul_left_inj (by omega)
    have a2 : 2 * (x' % y') * y = y' * y ↔ 2 * (x' % y') = y' := Nat.mul_left_inj (by omega)
    rw [← a1, ← a2, Nat.mul_assoc, h2, Nat.mul_assoc, Nat.mul_comm y y']
  unfold rq
  rw [h1]
  simp only [hlt, heq]
theorem rq_le (x y : Nat) (more : Bool) : rq x y more ≤ x / y + 1 := by unfold rq; split <;> omega
theorem rq_small {x y : Nat} (more : Bool) (h : 2 * x < y) : rq x y more = 0 := by
  unfold rq
  have h1 : x % y = x := Nat.mod_eq_of_lt (by omega)
  have h2 : x / y = 0 := Nat.div_eq_of_lt (by omega)
  rw [h1, h2, if_neg (by omega)]
/-- Two to a whole number's upper part, and to its lower one. -/
def pu (e : Int) : Nat := 2 ^ e.toNat
def pd (e : Int) : Nat := 2 ^ (-e).toNat
theorem pu_pos (e : Int) : 0 < pu e := Nat.two_pow_pos _
theorem pd_pos (e : Int) : 0 < pd e := Nat.two_pow_pos _
/-- The exponent of a fraction's first bit. -/
def fb (n d : Nat) (e : Int) : Prop := d * pu e ≤ n * pd e ∧ n * pd e < 2 * (d * pu e)
theorem fb_unique {n d : Nat} {e f : Int} (hd : 0 < d) (he : fb n d e) (hf : fb n d f) : e = f := by
  have key : ∀ {e f : Int}, fb n d e → fb n d f → ¬ e < f := by
    intro e f ⟨_, h2⟩ ⟨h3, _⟩ hlt
    have a1 : n * pd e * pd f < 2 * (d * pu e) * pd f := Nat.mul_lt_mul_of_pos_right h2 (pd_pos f)
    have a2 : d * pu f * pd e ≤ n * pd f * pd e := Nat.mul_le_mul_right _ h3
    have a3 : 2 * (pu e * pd f) ≤ pu f * pd e := by
      unfold pu pd
      rw [← Nat.pow_add, ← Nat.pow_add, show 2 * 2 ^ (e.toNat + (-f).toNat) = 2 ^ (e.toNat + (-f).toNat + 1) by rw [Nat.pow_succ, Nat.mul_comm]]
      exact Nat.pow_le_pow_right (by decide) (by omega)
    have a4 := Nat.mul_le_mul_left d a3
    have a5 : n * pd e * pd f = n * pd f * pd e := by rw [Nat.mul_assoc, Nat.mul_assoc, Nat.mul_comm (pd e)]
    have a6 : 2 * (d * pu e) * pd f = d * (2 * (pu e * pd f)) := by rw [Nat.mul_assoc, Nat.mul_assoc, Nat.mul_left_comm]
    have a7 : d * pu f * pd e = d * (pu f * pd e) := Nat.mul_assoc _ _ _
    omega
  have h1 := key he hf
  have h2 := key hf he
  omega
/-- The last bit's exponent. -/
def lst (F : Nat) (L e exp : Int) : Int := max (e + exp - F) L
/-- The rounded mantissa. -/
def man (n d : Nat) (exp last : Int) (more : Bool) : Nat := rq (n * pu (exp - last)) (d * pd (exp - last)) more
theorem man_small {F n d : Nat} {L e exp : Int} (hd : 0 < d) (he : fb n d e) (more : Bool) : man n d exp (lst F L e exp) more < 2 ^ (F + 1) + 1 := by
  have hq := rq_le (n * pu (exp - lst F L e exp)) (d * pd (exp - lst F L e exp)) more
  unfold man
  refine Nat.lt_of_le_of_lt hq ?_
  have : n * pu (exp - lst F L e exp) / (d * pd (exp - lst F L e exp)) < 2 ^ (F + 1) := by
    rw [Nat.div_lt_iff_lt_mul (Nat.mul_pos hd (pd_pos _))]
    have h2 := he.2
    have hl : e + exp - F ≤ lst F L e exp := by unfold lst; omega
    generalize lst F L e exp = last at *
    have a1 : n * pd e * (pu (exp - last)) < 2 * (d * pu e) * pu (exp - last) := Nat.mul_lt_mul_of_pos_right h2 (pu_pos _)
    have a2 : 2 * (pu e * pu (exp - last)) ≤ 2 ^ (F + 1) * (pd (exp - last) * pd e) := by
      unfold pu pd
      simp only [← Nat.pow_add]
      rw [show 2 * 2 ^ (e.toNat + (exp - last).toNat) = 2 ^ (e.toNat + (exp - last).toNat + 1) by rw [Nat.pow_succ, Nat.mul_comm]]
      exact Nat.pow_le_pow_right (by decide) (by omega)
    have a3 := Nat.mul_le_mul_left d a2
    have a4 : n * pu (exp - last) * pd e < 2 ^ (F + 1) * (d * pd (exp - last)) * pd e := by
      calc n * pu (exp - last) * pd e = n * pd e * pu (exp - last) := by rw [Nat.mul_assoc, Nat.mul_assoc, Nat.mul_comm (pu _)]
        _ < 2 * (d * pu e) * pu (exp - last) := a1
        _ = d * (2 * (pu e * pu (exp - last))) := by rw [Nat.mul_assoc, Nat.mul_assoc, Nat.mul_left_comm]
        _ ≤ d * (2 ^ (F + 1) * (pd (exp - last) * pd e)) := a3
        _ = 2 ^ (F + 1) * (d * pd (exp - last)) * pd e := by rw [Nat.mul_left_comm d, Nat.mul_assoc, Nat.mul_assoc]
    exact Nat.lt_of_mul_lt_mul_right a4
  omega
end Go.Proofs.YtbjmfocjigikgaaDoor.Q
end
section
namespace Go.Proofs.YtbjmfocjigikgaaDoor.XrB
open Go.RowKit Go.Proofs.YtbjmfocjigikgaaDoor.Xr Go.Proofs.YtbjmfocjigikgaaDoor.A Go.Proofs.YtbjmfocjigikgaaDoorW.PrintWords Go.Proofs.YtbjmfocjigikgaaDoorW.PrintLast Go.Proofs.YtbjmfocjigikgaaDoorW.PrintMore
set_option linter.unusedSimpArgs false
set_option linter.unusedVariables false

/-- A size's numbers: the mantissa's bits, the exponent's, the sign's place, the least exponent, the infinity. -/
def IsFmt (size F E S : Nat) (L : Int) (I : Nat) : Prop :=
  (size = 32 ∧ F = 23 ∧ E = 8 ∧ S = 31 ∧ L = -149 ∧ I = 2139095040) ∨ (size = 64 ∧ F = 52 ∧ E = 11 ∧ S = 63 ∧ L = -1074 ∧ I = 9218868437227405312)
theorem fmt32 : IsFmt 32 23 8 31 (-149) 2139095040 := .inl ⟨rfl, rfl, rfl, rfl, rfl, rfl⟩
theorem fmt64 : IsFmt 64 52 11 63 (-1074) 9218868437227405312 := .inr ⟨rfl, rfl, rfl, rfl, rfl, rfl⟩

theorem bind_eq {α β : Type} {o : Option α} {a : α} {f : α → Option β} (h : o = some a) : o.bind f = f a := by rw [h]; rfl
theorem formatOf_ok {size F E S : Nat} {L : Int} {I : Nat} (h : IsFmt size F E S L I) : bits_formatOf.f size = some ((F : Int), (E : Int), none) := by
  rcases h with ⟨rfl, rfl, rfl, rfl, rfl, rfl⟩ | ⟨rfl, rfl, rfl, rfl, rfl, rfl⟩ <;> decide +kernel
theorem sign_ok {size F E S : Nat} {L : Int} {I : Nat} (h : IsFmt size F E S L I) : bits_format_sign.f F E = some ((2 ^ S : Nat) : Int) := by
  rcases h with ⟨rfl, rfl, rfl, rfl, rfl, rfl⟩ | ⟨rfl, rfl, rfl, rfl, rfl, rfl⟩ <;> decide +kernel
theorem inf_ok {size F E S : Nat} {L : Int} {I : Nat} (h : IsFmt size F E S L I) : bits_format_inf.f F E = some (I : Int) := by
  rcases h with ⟨rfl, rfl, rfl, rfl, rfl, rfl⟩ | ⟨rfl, rfl, rfl, rfl, rfl, rfl⟩ <;> decide +kernel
theorem least_ok {size F E S : Nat} {L : Int} {I : Nat} (h : IsFmt size F E S L I) : bits_format_least.f F E = some L := by
  rcases h with ⟨rfl, rfl, rfl, rfl, rfl, rfl⟩ | ⟨rfl, rfl, rfl, rfl, rfl, rfl⟩ <;> decide +kernel
def cls (I m : Nat) : Int := if m = 0 then 1 else if m < I then 2 else if m = I then 3 else 4
/-- The parts of a finite float's magnitude. -/
def mantOf (F m : Nat) : Nat := if m / 2 ^ F = 0 then m % 2 ^ F else m % 2 ^ F + 2 ^ F
def expOf (F : Nat) (L : Int) (m : Nat) : Int := if m / 2 ^ F = 0 then L else L + ((m / 2 ^ F : Nat) : Int) - 1
def unp (F S : Nat) (L : Int) (I a : Nat) : Bool × Int × Int × Int :=
  let m := a % 2 ^ S
  if cls I m = 4 then (false, 4, 0, 0) else if cls I m = 2 then (decide (2 ^ S ≤ a), 2, (mantOf F m : Int), expOf F L m) else (decide (2 ^ S ≤ a), cls I m, 0, 0)
end Go.Proofs.YtbjmfocjigikgaaDoor.XrB
end
section
namespace Go.Proofs.YtbjmfocjigikgaaDoor.XrB
open Go.RowKit Go.Proofs.YtbjmfocjigikgaaDoor.Xr Go.Proofs.YtbjmfocjigikgaaDoor.A Go.Proofs.YtbjmfocjigikgaaDoorW.PrintWords Go.Proofs.YtbjmfocjigikgaaDoorW.PrintLast Go.Proofs.YtbjmfocjigikgaaDoorW.PrintMore
set_option linter.unusedSimpArgs false
set_option linter.unusedVariables false

theorem rsize_ok {size F E S : Nat} {L : Int} {I : Nat} (h : IsFmt size F E S L I) : numeralref11_Size.f size = some true := by
  rcases h with ⟨rfl, rfl, rfl, rfl, rfl, rfl⟩ | ⟨rfl, rfl, rfl, rfl, rfl, rfl⟩ <;> decide +kernel
theorem rsize_bad {size : Int} (h1 : size ≠ 32) (h2 : size ≠ 64) : numeralref11_Size.f size = some false := by
  unfold numeralref11_Size.f; rw [if_neg h1, beq_eq_false_iff_ne.mpr h2]
theorem rsign_ok {size F E S : Nat} {L : Int} {I : Nat} (h : IsFmt size F E S L I) : numeralref11_sign.f size = some ((2 ^ S : Nat) : Int) := by
  rcases h with ⟨rfl, rfl, rfl, rfl, rfl, rfl⟩ | ⟨rfl, rfl, rfl, rfl, rfl, rfl⟩ <;> decide +kernel
theorem rinf_ok {size F E S : Nat} {L : Int} {I : Nat} (h : IsFmt size F E S L I) : numeralref11_inf.f size = some (I : Int) := by
  rcases h with ⟨rfl, rfl, rfl, rfl, rfl, rfl⟩ | ⟨rfl, rfl, rfl, rfl, rfl, rfl⟩ <;> decide +kernel
theorem rfrac_ok {size F E S : Nat} {L : Int} {I : Nat} (h : IsFmt size F E S L I) : numeralref11_Frac.f size = some (F : Int) := by
  rcases h with ⟨rfl, rfl, rfl, rfl, rfl, rfl⟩ | ⟨rfl, rfl, rfl, rfl, rfl, rfl⟩ <;> decide +kernel
theorem rlow_ok {size F E S : Nat} {L : Int} {I : Nat} (h : IsFmt size F E S L I) : numeralref11_Low.f size = some L := by
  rcases h with ⟨rfl, rfl, rfl, rfl, rfl, rfl⟩ | ⟨rfl, rfl, rfl, rfl, rfl, rfl⟩ <;> decide +kernel
/-- The canonical NaN. -/
def nanOf (F I : Nat) : Nat := I + 2 ^ (F - 1)
theorem fmt_small {size F E S : Nat} {L : Int} {I : Nat} (h : IsFmt size F E S L I) : 0 < F ∧ F < 63 ∧ S + 1 ≤ 64 ∧ F < S ∧ (L = -149 ∨ L = -1074) ∧ (size = 32 ∨ size = 64) ∧ 23 ≤ F := by
  rcases h with ⟨rfl, rfl, rfl, rfl, rfl, rfl⟩ | ⟨rfl, rfl, rfl, rfl, rfl, rfl⟩ <;> simp
/-! packing: NaN, noughts, infinities -/
theorem Pack_zero {size F E S : Nat} {L : Int} {I : Nat} (h : IsFmt size F E S L I) (k : Nat) (neg : Bool) (m e : Int) : bits_Pack.f k neg 1 m e size = some (((if neg then 2 ^ S else 0 : Nat) : Int), none) := by
  unfold bits_Pack.f
  rw [bind_eq (formatOf_ok h), if_pos (by rfl), if_pos (by rfl), bind_eq (sign_ok h)]
  cases neg
  · simp
  · rcases h with ⟨rfl, rfl, rfl, rfl, rfl, rfl⟩ | ⟨rfl, rfl, rfl, rfl, rfl, rfl⟩ <;> decide +kernel
theorem Pack_inf {size F E S : Nat} {L : Int} {I : Nat} (h : IsFmt size F E S L I) (k : Nat) (neg : Bool) (m e : Int) : bits_Pack.f k neg 3 m e size = some (((if neg then I + 2 ^ S else I : Nat) : Int), none) := by
  unfold bits_Pack.f
  rw [bind_eq (formatOf_ok h), if_pos (by rfl), if_neg (by decide), if_pos (by rfl), bind_eq (inf_ok h), bind_eq (sign_ok h)]
  cases neg
  · simp
  · rcases h with ⟨rfl, rfl, rfl, rfl, rfl, rfl⟩ | ⟨rfl, rfl, rfl, rfl, rfl, rfl⟩ <;> decide +kernel
theorem size_cases (a : Nat) (ha : a < 18446744073709551616) (s : Int) : (∃ (z F E S : Nat) (L : Int) (I : Nat), s = z ∧ IsFmt z F E S L I ∧ a < 2 ^ (S + 1)) ∨ (s = 32 ∧ 4294967296 ≤ a) ∨ (s ≠ 32 ∧ s ≠ 64) := by
  by_cases h1 : s = 32
  · by_cases h2 : a < 4294967296
    · exact .inl ⟨32, 23, 8, 31, -149, 2139095040, h1, fmt32, h2⟩
    · exact .inr (.inl ⟨h1, by omega⟩)
  · by_cases h2 : s = 64
    · exact .inl ⟨64, 52, 11, 63, -1074, 9218868437227405312, h2, fmt64, ha⟩
    · exact .inr (.inr ⟨h1, h2⟩)
theorem fmt_I {size F E S : Nat} {L : Int} {I : Nat} (h : IsFmt size F E S L I) : 0 < I ∧ I < 2 ^ S ∧ S ≤ 63 := by
  rcases h with ⟨rfl, rfl, rfl, rfl, rfl, rfl⟩ | ⟨rfl, rfl, rfl, rfl, rfl, rfl⟩ <;> simp
theorem Signed_ok {size F E S : Nat} {L : Int} {I : Nat} (h : IsFmt size F E S L I) (neg : Bool) {x : Nat} (hx : x < 2 ^ S) : numeralref11_Signed.f neg x size = some (((if neg then x + 2 ^ S else x : Nat) : Int)) := by
  obtain ⟨hI0, hI, hS⟩ := fmt_I h
  have h4 : 2 ^ S ≤ 2 ^ 63 := Nat.pow_le_pow_right (by decide) hS
  unfold numeralref11_Signed.f
  cases neg
  · rfl
  · rw [if_pos rfl, bind_eq (rsign_ok h), if_pos rfl]
    have := or_disj' 1 x S hx (by omega)
    rw [Nat.one_mul, Nat.add_comm] at this
    rw [this]
end Go.Proofs.YtbjmfocjigikgaaDoor.XrB
end
section
namespace Go.Proofs.YtbjmfocjigikgaaDoor.XrB
open Go.RowKit Go.Proofs.YtbjmfocjigikgaaDoor.Xr Go.Proofs.YtbjmfocjigikgaaDoor.A Go.Proofs.YtbjmfocjigikgaaDoorW.PrintWords Go.Proofs.YtbjmfocjigikgaaDoorW.PrintLast Go.Proofs.YtbjmfocjigikgaaDoorW.PrintMore
set_option linter.unusedSimpArgs false
set_option linter.unusedVariables false

/-- o times two to the u is the mantissa of o times two to the t. -/
def Rep (F : Nat) (L t : Int) (o u : Nat) : Prop := o * 2 ^ u < 2 ^ (F + 1) ∧ L ≤ t - u ∧ (2 ^ F ≤ o * 2 ^ u ∨ t - u = L)
theorem Rep_le {F : Nat} {L t : Int} {o u v : Nat} (hu : Rep F L t o u) (hv : Rep F L t o v) : v ≤ u := by
  rcases Nat.lt_or_ge u v with h | h
  · exfalso
    obtain ⟨u1, u2, u3⟩ := hu
    obtain ⟨v1, v2, v3⟩ := hv
    obtain ⟨d, rfl⟩ : ∃ d, v = u + 1 + d := ⟨v - u - 1, by omega⟩
    have e : o * 2 ^ (u + 1 + d) = o * 2 ^ u * 2 * 2 ^ d := by rw [Nat.pow_add, Nat.pow_succ]; simp only [Nat.mul_assoc]
    have hd : 0 < 2 ^ d := Nat.two_pow_pos d
    have h2 : o * 2 ^ u * 2 ≤ o * 2 ^ u * 2 * 2 ^ d := Nat.le_mul_of_pos_right _ hd
    have h3 : 2 ^ (F + 1) = 2 ^ F * 2 := Nat.pow_succ ..
    have h4 : o * 2 ^ u < 2 ^ F := by omega
    rcases u3 with h5 | h5
    · omega
    · omega
  · exact h
theorem Rep_unique {F : Nat} {L t : Int} {o u v : Nat} (hu : Rep F L t o u) (hv : Rep F L t o v) : u = v := Nat.le_antisymm (Rep_le hv hu) (Rep_le hu hv)
theorem Rep_pos {F : Nat} {L t : Int} {o u : Nat} (hu : Rep F L t o u) : o < 2 ^ (F + 1) ∧ L ≤ t := by
  obtain ⟨u1, u2, _⟩ := hu
  have : 0 < 2 ^ u := Nat.two_pow_pos u
  have : o ≤ o * 2 ^ u := Nat.le_mul_of_pos_right _ this
  omega
/-- The bits of a mantissa and an exponent, and the error's number. -/
def packv (F E : Nat) (L : Int) (M : Nat) (X : Int) : Int × Int :=
  if M < 2 ^ F then ((M : Int), 0) else if X - L + 1 ≥ 2 ^ E - 1 then (0, 4) else ((((X - L).toNat * 2 ^ F + M : Nat) : Int), 0)
theorem bitLen_rep {F : Nat} {L t : Int} {o : Nat} (h0 : 0 < o) (ho : o < 2 ^ (F + 1)) (ht : L ≤ t) (hF : F < 63) :
    Lib.bitLen o ≤ F + 1 ∧ Rep F L t o (min (F + 1 - Lib.bitLen o) (t - L).toNat) := by
  have h64 : 2 ^ (F + 1) ≤ 18446744073709551616 := pow_le64 (by omega)
  have hle : Lib.bitLen o ≤ F + 1 := Lib.bitLen_le o (F + 1) (by omega) ho
  obtain ⟨b0, b1, b2⟩ := blen_spec _ o rfl h0 (by omega)
  generalize hb : Lib.bitLen o = b at *
  refine ⟨hle, ?_⟩
  generalize hu : min (F + 1 - b) (t - L).toNat = u
  have hu1 : u ≤ F + 1 - b := by omega
  have hu2 : u ≤ (t - L).toNat := by omega
  refine ⟨?_, by omega, ?_⟩
  · have h1 : o * 2 ^ u < 2 ^ b * 2 ^ u := Nat.mul_lt_mul_of_pos_right b2 (Nat.two_pow_pos u)
    rw [← Nat.pow_add] at h1
    exact Nat.lt_of_lt_of_le h1 (Nat.pow_le_pow_right (by decide) (by omega))
  · by_cases hc : u = F + 1 - b
    · left
      have h1 : 2 ^ (b - 1) * 2 ^ u ≤ o * 2 ^ u := Nat.mul_le_mul_right _ b1
      rw [← Nat.pow_add, show b - 1 + u = F by omega] at h1
      exact h1
    · right; omega
theorem fmt_E {size F E S : Nat} {L : Int} {I : Nat} (h : IsFmt size F E S L I) : (2 : Int) ^ E - 1 = 255 ∧ E = 8 ∧ F = 23 ∧ L = -149 ∨ (2 : Int) ^ E - 1 = 2047 ∧ E = 11 ∧ F = 52 ∧ L = -1074 := by
  rcases h with ⟨rfl, rfl, rfl, rfl, rfl, rfl⟩ | ⟨rfl, rfl, rfl, rfl, rfl, rfl⟩ <;> simp
theorem shl_i64_E {E : Nat} (hE : E = 8 ∨ E = 11) : wrap64 (shl .i64 1 (E : Int) - 1) = 2 ^ E - 1 := by
  rcases hE with rfl | rfl <;> decide +kernel
theorem mn_int (a b : Int) : mn a b = min a b := by unfold mn; split <;> omega
/-- The program's fine, where o times two to the t has a normal form. -/
theorem fine_ok {size F E S : Nat} {L : Int} {I : Nat} (h : IsFmt size F E S L I) {o n u : Nat} {e : Int} (hm : (2 * o + 1) * 2 ^ n < 18446744073709551616) (hn : Lib.ctz 64 ((2 * o + 1) * 2 ^ n) = n) (hn64 : n < 64)
    (he0 : -5000 ≤ e) (he1 : e ≤ 5000) (hr : Rep F L (e + n) (2 * o + 1) u) (k : Nat) :
    bits_format_fine.f (k + 2) F E (((2 * o + 1) * 2 ^ n : Nat) : Int) e = some ((packv F E L ((2 * o + 1) * 2 ^ u) (e + n - u)).1, if (packv F E L ((2 * o + 1) * 2 ^ u) (e + n - u)).2 = 0 then none else some (packv F E L ((2 * o + 1) * 2 ^ u) (e + n - u)).2) := by
  obtain ⟨hF0, hF, hS, hFS, hL, _, hF23⟩ := fmt_small h
  obtain ⟨ho, ht⟩ := Rep_pos hr
  have h64 : 2 ^ (F + 1) ≤ 18446744073709551616 := pow_le64 (by omega)
  obtain ⟨hb, hr2⟩ := bitLen_rep (L := L) (t := e + n) (by omega : 0 < 2 * o + 1) ho ht hF
  have hu := Rep_unique hr hr2
  have hbE := fmt_E h
  have htz : bits_TrailingZeros64.f (((2 * o + 1) * 2 ^ n : Nat) : Int) = some (n : Int) := by
    unfold bits_TrailingZeros64.f u64ok
    rw [if_pos (u64ok_of hm), Int.toNat_natCast, hn]
  have hlen : bits_Len64.f ((2 * o + 1 : Nat) : Int) = some ((Lib.bitLen (2 * o + 1) : Nat) : Int) := by
    unfold bits_Len64.f u64ok
    rw [if_pos (u64ok_of (by omega)), Int.toNat_natCast]
  have hdiv : (2 * o + 1) * 2 ^ n / 2 ^ n = 2 * o + 1 := Nat.mul_div_cancel _ (Nat.two_pow_pos n)
  unfold bits_format_fine.f
  rw [bind_eq htz, if_pos (by omega), if_neg (by omega), shr_u _ n (by omega), hdiv, decide_eq_false (by omega)]
  generalize 2 * o + 1 = O at *
  rw [bits_format_fine.j0, if_neg (by decide), bind_eq hlen, wrapi_id (n := (F : Int) + 1) (by omega) (by omega), if_neg (by omega), bind_eq (least_ok h), wrapi_id (n := e + (n : Int)) (by omega) (by omega), decide_eq_false (by omega)]
  rw [bits_format_fine.j1, if_neg (by decide), bind_eq (least_ok h), wrapi_id (n := (F : Int) + 1) (by omega) (by omega), wrapi_id (n := (F : Int) + 1 - (Lib.bitLen O : Int)) (by omega) (by omega), wrapi_id (n := e + (n : Int) - L) (by omega) (by omega), mn_int]
  have hmin : min ((F : Int) + 1 - (Lib.bitLen O : Int)) (e + (n : Int) - L) = (u : Int) := by omega
  obtain ⟨r1, r2, r3⟩ := hr
  have hu64 : u ≤ 64 := by omega
  have hI : IntKind.u64.bits = 64 := rfl
  rw [hmin, if_pos (by omega), if_pos (by omega), shl_fit O u hu64 (by omega)]
  generalize hM : O * 2 ^ u = M at *
  rw [shr_u M F (by omega)]
  unfold packv
  by_cases hc : M < 2 ^ F
  · rw [if_pos (by rw [Nat.div_eq_of_lt hc]; rfl), if_pos hc]
    rfl
  · have hd : M / 2 ^ F = 1 := by
      have : 2 ^ (F + 1) = 2 ^ F * 2 := Nat.pow_succ ..
      apply Nat.div_eq_of_lt_le <;> omega
    have hmod : M % 2 ^ F = M - 2 ^ F := by
      have := Nat.div_add_mod M (2 ^ F)
      rw [hd] at this; omega
    have hE : E = 8 ∨ E = 11 := by rcases hbE with ⟨_, hE, _⟩ | ⟨_, hE, _⟩ <;> simp [hE]
    rw [if_neg (by omega), bind_eq (least_ok h), if_pos (by omega), if_neg hc, wrapi_id (n := e + (n : Int) - u) (by omega) (by omega), wrapi_id (n := e + (n : Int) - u - L) (by omega) (by omega), wrapi_id (n := e + (n : Int) - u - L + 1) (by omega) (by omega), shl_i64_E hE]
    by_cases hf : e + (n : Int) - u - L + 1 ≥ 2 ^ E - 1
    · rw [if_pos hf, if_pos hf]; rfl
    · rw [if_neg hf, if_neg hf]
      obtain ⟨q, hq⟩ : ∃ q : Nat, e + (n : Int) - u - L = q := ⟨(e + (n : Int) - u - L).toNat, by omega⟩
      have hq2 : q + 1 < 2047 := by rcases hbE with ⟨h1, _⟩ | ⟨h1, _⟩ <;> omega
      have hFq : (q + 1) * 2 ^ F + (M - 2 ^ F) < 18446744073709551616 := by
        rcases hbE with ⟨h1, _, hF', _⟩ | ⟨h1, _, hF', _⟩ <;> subst hF' <;> omega
      rw [hq, wrapu_id (n := (q : Int) + 1) (by omega) (by omega), mask_u F (by omega), and_mask M F (by omega) (by omega), hmod]
      have hs := shl_fit (q + 1) F (by omega) (by omega)
      rw [show ((q + 1 : Nat) : Int) = (q : Int) + 1 by omega] at hs
      rw [hs, or_disj (q + 1) (M - 2 ^ F) F (by have : 2 ^ (F + 1) = 2 ^ F * 2 := Nat.pow_succ ..; omega) hFq]
      have e9 : (q + 1) * 2 ^ F + (M - 2 ^ F) = q * 2 ^ F + M := by
        have : (q + 1) * 2 ^ F = q * 2 ^ F + 2 ^ F := by rw [Nat.add_mul, Nat.one_mul]
        omega
      rw [Int.toNat_natCast, e9]
      rfl
theorem fine_none {size F E S : Nat} {L : Int} {I : Nat} (h : IsFmt size F E S L I) {o n : Nat} {e : Int} (hm : (2 * o + 1) * 2 ^ n < 18446744073709551616) (hn : Lib.ctz 64 ((2 * o + 1) * 2 ^ n) = n) (hn64 : n < 64)
    (he0 : -5000 ≤ e) (he1 : e ≤ 5000) (hr : 2 ^ (F + 1) ≤ 2 * o + 1 ∨ e + n < L) (k : Nat) :
    bits_format_fine.f (k + 2) F E (((2 * o + 1) * 2 ^ n : Nat) : Int) e = some (0, some 4) := by
  obtain ⟨hF0, hF, hS, hFS, hL, _, hF23⟩ := fmt_small h
  have hO : 2 * o + 1 ≤ (2 * o + 1) * 2 ^ n := Nat.le_mul_of_pos_right _ (Nat.two_pow_pos n)
  have htz : bits_TrailingZeros64.f (((2 * o + 1) * 2 ^ n : Nat) : Int) = some (n : Int) := by
    unfold bits_TrailingZeros64.f u64ok
    rw [if_pos (u64ok_of hm), Int.toNat_natCast, hn]
  have hlen : bits_Len64.f ((2 * o + 1 : Nat) : Int) = some ((Lib.bitLen (2 * o + 1) : Nat) : Int) := by
    unfold bits_Len64.f u64ok
    rw [if_pos (u64ok_of (by omega)), Int.toNat_natCast]
  obtain ⟨b0, b1, b2⟩ := blen_spec _ (2 * o + 1) rfl (by omega) (by omega)
  have hdiv : (2 * o + 1) * 2 ^ n / 2 ^ n = 2 * o + 1 := Nat.mul_div_cancel _ (Nat.two_pow_pos n)
  unfold bits_format_fine.f
  rw [bind_eq htz, if_pos (by omega), if_neg (by omega), shr_u _ n (by omega), hdiv, decide_eq_false (by omega)]
  generalize 2 * o + 1 = O at *
  rw [bits_format_fine.j0, if_neg (by decide), bind_eq hlen, wrapi_id (n := (F : Int) + 1) (by omega) (by omega)]
  by_cases hc : ((Lib.bitLen O : Nat) : Int) > (F : Int) + 1
  · rw [if_pos hc, bits_format_fine.j1, if_pos rfl]
  · rw [if_neg hc, bind_eq (least_ok h), wrapi_id (n := e + (n : Int)) (by omega) (by omega)]
    have hlt : O < 2 ^ (F + 1) := Nat.lt_of_lt_of_le b2 (Nat.pow_le_pow_right (by decide) (by omega))
    rw [decide_eq_true (by omega), bits_format_fine.j1, if_pos rfl]
theorem fine_far {F E : Int} {m : Nat} {e : Int} (hm0 : m < 18446744073709551616) (he : e < -5000 ∨ 5000 < e) (k : Nat) : bits_format_fine.f (k + 1) F E (m : Int) e = some (0, some 4) := by
  unfold bits_format_fine.f
  have htz : bits_TrailingZeros64.f (m : Int) = some ((Lib.ctz 64 m : Nat) : Int) := by
    unfold bits_TrailingZeros64.f u64ok
    rw [if_pos (u64ok_of hm0), Int.toNat_natCast]
  rw [bind_eq htz, if_pos (by omega)]
  by_cases hc : e > 5000
  · rw [if_pos hc, bits_format_fine.j0, if_pos rfl]
  · rw [if_neg hc, decide_eq_true (by omega), bits_format_fine.j0, if_pos rfl]
end Go.Proofs.YtbjmfocjigikgaaDoor.XrB
end
section
namespace Go.Proofs.YtbjmfocjigikgaaDoor.XrB
open Go.RowKit Go.Proofs.YtbjmfocjigikgaaDoor.Xr Go.Proofs.YtbjmfocjigikgaaDoor.A Go.Proofs.YtbjmfocjigikgaaDoorW.PrintWords Go.Proofs.YtbjmfocjigikgaaDoorW.PrintLast Go.Proofs.YtbjmfocjigikgaaDoorW.PrintMore
set_option linter.unusedSimpArgs false
set_option linter.unusedVariables false

theorem and_one {a : Nat} (ha : a < 18446744073709551616) : Go.bits .and .u64 (a : Int) 1 = ((a % 2 : Nat) : Int) := and_mask a 1 ha (by omega)
theorem rl0 {size F E S : Nat} {L : Int} {I : Nat} (h : IsFmt size F E S L I) (O : Nat) (hO : O % 2 = 1) (t : Int) (ht1 : t ≤ 10000) (b : Bool) (c1 c2 c3 : Int) (k : Nat) : ∀ v : Nat, O * 2 ^ v < 18446744073709551616 → -10000 ≤ t - v →
    ∃ w, w ≤ v ∧ numeralref11_Pack.l0 (k + v + 1) size ((O * 2 ^ v : Nat) : Int) (t - v) F b c1 c2 c3 = numeralref11_Pack.j3 (k + w) size ((O * 2 ^ w : Nat) : Int) (t - w) F b c1 c2 c3 ∧ (w = 0 ∨ O * 2 ^ w < 2 ^ (F + 1) ∧ L ≤ t - w)
  | 0, hm, hv => by
    refine ⟨0, Nat.le_refl _, ?_, .inl rfl⟩
    rw [numeralref11_Pack.l0, and_one hm, if_neg (by rw [Nat.pow_zero, Nat.mul_one, hO]; decide)]
    rfl
  | v + 1, hm, hv => by
    obtain ⟨hF0, hF, hS, hFS, hL, _, hF23⟩ := fmt_small h
    have e1 : O * 2 ^ (v + 1) = O * 2 ^ v * 2 := by rw [Nat.pow_succ, Nat.mul_assoc]
    have e2 : O * 2 ^ (v + 1) % 2 = 0 := by rw [e1]; omega
    have e3 : O * 2 ^ (v + 1) / 2 = O * 2 ^ v := by rw [e1]; omega
    obtain ⟨w, hw, hl, hc⟩ := rl0 h O hO t ht1 b c1 c2 c3 k v (by omega) (by omega)
    have hstep : numeralref11_Pack.l0 (k + (v + 1)) size (((O * 2 ^ (v + 1) : Nat) : Int) / 2) (wrap64 (t - ((v + 1 : Nat) : Int) + 1)) F b c1 c2 c3 = numeralref11_Pack.j3 (k + w) size ((O * 2 ^ w : Nat) : Int) (t - w) F b c1 c2 c3 := by
      rw [wrapi_id (n := t - ((v + 1 : Nat) : Int) + 1) (by omega) (by omega), show t - ((v + 1 : Nat) : Int) + 1 = t - (v : Int) by omega, show ((O * 2 ^ (v + 1) : Nat) : Int) / 2 = ((O * 2 ^ v : Nat) : Int) by omega]
      exact hl
    rw [numeralref11_Pack.l0, and_one hm, e2, if_pos (by rfl), wrapu_id (n := (F : Int) + 1) (by omega) (by omega), if_pos (by omega)]
    have hs := shr_u (O * 2 ^ (v + 1)) (F + 1) (by omega)
    rw [show ((F + 1 : Nat) : Int) = (F : Int) + 1 by omega] at hs
    rw [hs]
    by_cases hz : O * 2 ^ (v + 1) / 2 ^ (F + 1) = 0
    · rw [if_pos (by omega), bind_eq (rlow_ok h)]
      by_cases hlt : t - ((v + 1 : Nat) : Int) < L
      · rw [if_pos hlt, hstep]
        exact ⟨w, by omega, rfl, hc⟩
      · rw [if_neg hlt]
        refine ⟨v + 1, Nat.le_refl _, rfl, .inr ⟨?_, by omega⟩⟩
        rcases Nat.div_eq_zero_iff.1 hz with h0 | h0
        · have := Nat.two_pow_pos (F + 1); omega
        · exact h0
    · rw [if_neg (by omega), hstep]
      exact ⟨w, by omega, rfl, hc⟩
theorem rl1 {size F E S : Nat} {L : Int} {I : Nat} (h : IsFmt size F E S L I) (O : Nat) (t : Int) (b : Bool) (c1 c2 c3 : Int) (k : Nat) : ∀ (d u : Nat), O * 2 ^ u < 18446744073709551616 → -10000 ≤ t - u - d → t - u ≤ 10000 → 2 ^ F ≤ O * 2 ^ u * 2 ^ d →
    ∃ w k', u ≤ w ∧ k ≤ k' ∧ numeralref11_Pack.l1 (k + d + 1) size ((O * 2 ^ u : Nat) : Int) (t - u) F b c1 c2 c3 = numeralref11_Pack.j5 k' size ((O * 2 ^ w : Nat) : Int) (t - w) F b c1 c2 c3 ∧ (2 ^ F ≤ O * 2 ^ w ∨ t - w ≤ L) ∧ (w = u ∨ O * 2 ^ w < 2 ^ (F + 1) ∧ L ≤ t - w) := by
  obtain ⟨hF0, hF, hS, hFS, hL, _, hF23⟩ := fmt_small h
  intro d
  induction d with
  | zero =>
    intro u hm h1 h2 hd
    refine ⟨u, k, Nat.le_refl _, Nat.le_refl _, ?_, .inl (by simpa using hd), .inl rfl⟩
    rw [numeralref11_Pack.l1, if_pos (by omega), shr_u _ F (by omega)]
    have : 1 ≤ O * 2 ^ u / 2 ^ F := (Nat.one_le_div_iff (Nat.two_pow_pos F)).2 (by simpa using hd)
    rw [if_neg (by omega)]
  | succ d ih =>
    intro u hm h1 h2 hd
    rw [numeralref11_Pack.l1, if_pos (by omega), shr_u _ F (by omega)]
    by_cases hz : O * 2 ^ u < 2 ^ F
    · rw [if_pos (by rw [Nat.div_eq_of_lt hz]; rfl), bind_eq (rlow_ok h)]
      by_cases hlt : t - (u : Int) > L
      · have e1 : O * 2 ^ (u + 1) = O * 2 ^ u * 2 := by rw [Nat.pow_succ, Nat.mul_assoc]
        have e2 : 2 ^ (F + 1) = 2 ^ F * 2 := Nat.pow_succ ..
        have h64 : 2 ^ (F + 1) ≤ 18446744073709551616 := pow_le64 (by omega)
        obtain ⟨w, k', hw, hk, hl, hc, hq⟩ := ih (u + 1) (by omega) (by omega) (by omega) (by rw [e1, Nat.mul_assoc, ← Nat.pow_succ']; exact hd)
        rw [if_pos hlt, wrapu_id (n := ((O * 2 ^ u : Nat) : Int) * 2) (by omega) (by omega), wrapi_id (n := t - (u : Int) - 1) (by omega) (by omega), show ((O * 2 ^ u : Nat) : Int) * 2 = ((O * 2 ^ (u + 1) : Nat) : Int) by omega, show t - (u : Int) - 1 = t - ((u + 1 : Nat) : Int) by omega, show k + (d + 1) = k + d + 1 by omega, hl]
        refine ⟨w, k', by omega, hk, rfl, hc, .inr ?_⟩
        rcases hq with rfl | hq
        · exact ⟨by omega, by omega⟩
        · exact hq
      · rw [if_neg hlt]
        exact ⟨u, k + (d + 1), Nat.le_refl _, by omega, rfl, .inr (by omega), .inl rfl⟩
    · have : 1 ≤ O * 2 ^ u / 2 ^ F := (Nat.one_le_div_iff (Nat.two_pow_pos F)).2 (by omega)
      rw [if_neg (by omega)]
      exact ⟨u, k + (d + 1), Nat.le_refl _, by omega, rfl, .inl (by omega), .inl rfl⟩
theorem rtop_ok {size F E S : Nat} {L : Int} {I : Nat} (h : IsFmt size F E S L I) : numeralref11_Top.f size = some (2 ^ E - 1) := by
  rcases h with ⟨rfl, rfl, rfl, rfl, rfl, rfl⟩ | ⟨rfl, rfl, rfl, rfl, rfl, rfl⟩ <;> decide +kernel
/-- The signed bits, or none beside an error. -/
def signv (S : Nat) (neg : Bool) (r : Int × Int) : Int × Int := if r.2 = 0 then (if neg then (r.1 + 2 ^ S, 0) else (r.1, 0)) else (0, r.2)
theorem packv_lt {size F E S : Nat} {L : Int} {I : Nat} (h : IsFmt size F E S L I) {M : Nat} {X : Int} (hM : M < 2 ^ (F + 1)) (hX : L ≤ X) (hf : ¬ X - L + 1 ≥ 2 ^ E - 1) : (X - L).toNat * 2 ^ F + M < 2 ^ S := by
  rcases fmt_E h with ⟨h1, h2, h3, h4⟩ | ⟨h1, h2, h3, h4⟩ <;> rcases h with ⟨_, _, _, hS, _⟩ | ⟨_, hF', _, hS, _⟩ <;> subst h3 <;> subst hS <;> omega
theorem rj5_ok {size F E S : Nat} {L : Int} {I : Nat} (h : IsFmt size F E S L I) {M : Nat} {X : Int} (hM : M < 2 ^ (F + 1)) (hX : L ≤ X) (hX2 : X ≤ 10000) (hn : 2 ^ F ≤ M ∨ X = L) (b : Bool) (c1 c2 c3 : Int) (k : Nat) :
    numeralref11_Pack.j5 (k + 2) size (M : Int) X F b c1 c2 c3 = some (signv S b (packv F E L M X)) := by
  obtain ⟨hF0, hF, hS, hFS, hL, _, hF23⟩ := fmt_small h
  have h64 : 2 ^ (F + 1) ≤ 18446744073709551616 := pow_le64 (by omega)
  have hbE := fmt_E h
  have hs := shr_u M (F + 1) (by omega)
  rw [show ((F + 1 : Nat) : Int) = (F : Int) + 1 by omega] at hs
  rw [numeralref11_Pack.j5, bind_eq (rlow_ok h), wrapu_id (n := (F : Int) + 1) (by omega) (by omega), if_pos (by omega), hs, Nat.div_eq_of_lt hM, if_pos (by rfl), bind_eq (rlow_ok h), if_neg (by omega), if_pos (by omega), shr_u M F (by omega), wrapi_id (n := X - L) (by omega) (by omega), wrapi_id (n := X - L + 1) (by omega) (by omega)]
  unfold packv signv
  by_cases hc : M < 2 ^ F
  · have hMS : M < 2 ^ S := Nat.lt_of_lt_of_le hc (Nat.pow_le_pow_right (by decide) (by omega))
    rw [if_pos (by rw [Nat.div_eq_of_lt hc]; rfl), if_pos hc, numeralref11_Pack.j6, if_neg (by decide), if_pos (by omega), shr_u M F (by omega), Nat.div_eq_of_lt hc, if_pos (by rfl), bind_eq (Signed_ok h b hMS)]
    cases b <;> simp
  · have hd : M / 2 ^ F = 1 := by
      have : 2 ^ (F + 1) = 2 ^ F * 2 := Nat.pow_succ ..
      apply Nat.div_eq_of_lt_le <;> omega
    have hmod : M % 2 ^ F = M - 2 ^ F := by
      have := Nat.div_add_mod M (2 ^ F)
      rw [hd] at this; omega
    rw [hd, if_neg (by decide), if_neg hc, bind_eq (rtop_ok h), wrapi_id (n := (2 : Int) ^ E - 1) (by rcases hbE with ⟨h1, _⟩ | ⟨h1, _⟩ <;> omega) (by rcases hbE with ⟨h1, _⟩ | ⟨h1, _⟩ <;> omega)]
    by_cases hf : X - L + 1 ≥ 2 ^ E - 1
    · rw [decide_eq_true hf, if_pos hf, numeralref11_Pack.j6, if_pos rfl]; rfl
    · rw [decide_eq_false hf, if_neg hf, numeralref11_Pack.j6, if_neg (by decide), if_pos (by omega), shr_u M F (by omega), hd, if_neg (by decide)]
      have hlt := packv_lt h hM hX hf
      obtain ⟨q, hq⟩ : ∃ q : Nat, X - L = q := ⟨(X - L).toNat, by omega⟩
      rw [hq, Int.toNat_natCast] at hlt
      have hS63 : 2 ^ S ≤ 2 ^ 63 := Nat.pow_le_pow_right (by decide) (by omega)
      have e9 : (q + 1) * 2 ^ F + (M - 2 ^ F) = q * 2 ^ F + M := by
        have : (q + 1) * 2 ^ F = q * 2 ^ F + 2 ^ F := by rw [Nat.add_mul, Nat.one_mul]
        omega
      have e8 : (q + 1) * 2 ^ F < 18446744073709551616 := by omega
      rw [hq, Int.toNat_natCast, wrapu_id (n := (q : Int) + 1) (by omega) (by rcases hbE with ⟨h1, _⟩ | ⟨h1, _⟩ <;> omega), mask_u F (by omega), and_mask M F (by omega) (by omega), hmod]
      have hs2 := shl_fit (q + 1) F (by omega) e8
      rw [show ((q + 1 : Nat) : Int) = (q : Int) + 1 by omega] at hs2
      rw [hs2, or_disj (q + 1) (M - 2 ^ F) F (by have : 2 ^ (F + 1) = 2 ^ F * 2 := Nat.pow_succ ..; omega) (by omega), e9, bind_eq (Signed_ok h b hlt)]
      cases b <;> simp
end Go.Proofs.YtbjmfocjigikgaaDoor.XrB
end
section
namespace Go.Proofs.YtbjmfocjigikgaaDoor.XrB
open Go.RowKit Go.Proofs.YtbjmfocjigikgaaDoor.Xr Go.Proofs.YtbjmfocjigikgaaDoor.A Go.Proofs.YtbjmfocjigikgaaDoorW.PrintWords Go.Proofs.YtbjmfocjigikgaaDoorW.PrintLast Go.Proofs.YtbjmfocjigikgaaDoorW.PrintMore
set_option linter.unusedSimpArgs false
set_option linter.unusedVariables false

def errv (c : Int) : Option Int := if c = 0 then none else some c
theorem packv_err (F E : Nat) (L : Int) (M : Nat) (X : Int) : (packv F E L M X).2 = 0 ∨ packv F E L M X = (0, 4) := by
  unfold packv
  by_cases h1 : M < 2 ^ F
  · rw [if_pos h1]; exact .inl rfl
  · rw [if_neg h1]
    by_cases h2 : X - L + 1 ≥ 2 ^ E - 1
    · rw [if_pos h2]; exact .inr rfl
    · rw [if_neg h2]; exact .inl rfl
theorem packv_nat {size F E S : Nat} {L : Int} {I : Nat} (h : IsFmt size F E S L I) {M : Nat} {X : Int} (hM : M < 2 ^ (F + 1)) (hX : L ≤ X) (h0 : (packv F E L M X).2 = 0) : ∃ q : Nat, packv F E L M X = ((q : Int), 0) ∧ q < 2 ^ S := by
  obtain ⟨hF0, hF, hS, hFS, hL, _, hF23⟩ := fmt_small h
  unfold packv at h0 ⊢
  by_cases h1 : M < 2 ^ F
  · rw [if_pos h1]
    exact ⟨M, rfl, Nat.lt_of_lt_of_le h1 (Nat.pow_le_pow_right (by decide) (by omega))⟩
  · rw [if_neg h1] at h0 ⊢
    by_cases h2 : X - L + 1 ≥ 2 ^ E - 1
    · rw [if_pos h2] at h0; exact absurd h0 (by decide)
    · rw [if_neg h2]
      exact ⟨_, rfl, packv_lt h hM hX h2⟩
theorem Pack_rep {size F E S : Nat} {L : Int} {I : Nat} (h : IsFmt size F E S L I) {o n u : Nat} {e : Int} (hm : (2 * o + 1) * 2 ^ n < 18446744073709551616) (hn : Lib.ctz 64 ((2 * o + 1) * 2 ^ n) = n) (hn64 : n < 64)
    (he0 : -5000 ≤ e) (he1 : e ≤ 5000) (hr : Rep F L (e + n) (2 * o + 1) u) (neg : Bool) (k : Nat) :
    bits_Pack.f (k + 2) neg 2 (((2 * o + 1) * 2 ^ n : Nat) : Int) e size = some ((signv S neg (packv F E L ((2 * o + 1) * 2 ^ u) (e + n - u))).1, errv (signv S neg (packv F E L ((2 * o + 1) * 2 ^ u) (e + n - u))).2) := by
  obtain ⟨hF0, hF, hS, hFS, hL, _, hF23⟩ := fmt_small h
  have hpos : 0 < (2 * o + 1) * 2 ^ n := Nat.mul_pos (by omega) (Nat.two_pow_pos n)
  unfold bits_Pack.f
  rw [bind_eq (formatOf_ok h), if_pos (by rfl), if_neg (by decide), if_neg (by decide), if_neg (by decide), if_pos (by rfl), if_neg (by omega), bind_eq (fine_ok h hm hn hn64 he0 he1 hr k)]
  obtain ⟨r1, r2, r3⟩ := hr
  generalize hp : packv F E L ((2 * o + 1) * 2 ^ u) (e + n - u) = p
  rcases packv_err F E L ((2 * o + 1) * 2 ^ u) (e + n - u) with h0 | h0
  · obtain ⟨q, hq, hqS⟩ := packv_nat h r1 (by omega) h0
    rw [hp] at hq
    subst hq
    have hS63 : 2 ^ S ≤ 2 ^ 63 := Nat.pow_le_pow_right (by decide) (by omega)
    have hor := or_disj' 1 q S hqS (by omega)
    rw [Nat.one_mul] at hor
    rw [if_pos (by rfl), bind_eq (sign_ok h)]
    unfold signv errv
    cases neg
    · rfl
    · rw [if_pos rfl, if_pos rfl, if_pos rfl, hor]
      simp only [if_true]
      rw [show ((2 ^ S + q : Nat) : Int) = (q : Int) + 2 ^ S by rw [Int.natCast_add, Int.natCast_pow]; exact Int.add_comm _ _]
  · rw [hp] at h0
    subst h0
    rw [if_neg (by simp)]
    rfl
theorem Pack_none {size F E S : Nat} {L : Int} {I : Nat} (h : IsFmt size F E S L I) {o n : Nat} {e : Int} (hm : (2 * o + 1) * 2 ^ n < 18446744073709551616) (hn : Lib.ctz 64 ((2 * o + 1) * 2 ^ n) = n) (hn64 : n < 64)
    (he0 : -5000 ≤ e) (he1 : e ≤ 5000) (hr : 2 ^ (F + 1) ≤ 2 * o + 1 ∨ e + n < L) (neg : Bool) (k : Nat) :
    bits_Pack.f (k + 2) neg 2 (((2 * o + 1) * 2 ^ n : Nat) : Int) e size = some (0, some 4) := by
  have hpos : 0 < (2 * o + 1) * 2 ^ n := Nat.mul_pos (by omega) (Nat.two_pow_pos n)
  unfold bits_Pack.f
  rw [bind_eq (formatOf_ok h), if_pos (by rfl), if_neg (by decide), if_neg (by decide), if_neg (by decide), if_pos (by rfl), if_neg (by omega), bind_eq (fine_none h hm hn hn64 he0 he1 hr k), if_neg (by simp)]
  rfl
theorem Pack_far {size F E S : Nat} {L : Int} {I : Nat} (h : IsFmt size F E S L I) {m : Nat} {e : Int} (hm0 : 0 < m) (hm : m < 18446744073709551616) (he : e < -5000 ∨ 5000 < e) (neg : Bool) (k : Nat) :
    bits_Pack.f (k + 1) neg 2 (m : Int) e size = some (0, some 4) := by
  unfold bits_Pack.f
  rw [bind_eq (formatOf_ok h), if_pos (by rfl), if_neg (by decide), if_neg (by decide), if_neg (by decide), if_pos (by rfl), if_neg (by omega), bind_eq (fine_far hm he k), if_neg (by simp)]
  rfl
theorem rj5_none {size F E S : Nat} {L : Int} {I : Nat} (h : IsFmt size F E S L I) {M : Nat} {X : Int} (hM : 2 ^ (F + 1) ≤ M ∨ X < L) (b : Bool) (c1 c2 c3 : Int) (k : Nat) :
    numeralref11_Pack.j5 (k + 2) size (M : Int) X F b c1 c2 c3 = some (0, 4) := by
  obtain ⟨hF0, hF, hS, hFS, hL, _, hF23⟩ := fmt_small h
  have hs := shr_u M (F + 1) (by omega)
  rw [show ((F + 1 : Nat) : Int) = (F : Int) + 1 by omega] at hs
  rw [numeralref11_Pack.j5, bind_eq (rlow_ok h), wrapu_id (n := (F : Int) + 1) (by omega) (by omega), if_pos (by omega), hs]
  by_cases hc : M / 2 ^ (F + 1) = 0
  · rw [hc, if_pos (by rfl), bind_eq (rlow_ok h)]
    have hlt : M < 2 ^ (F + 1) := by
      rcases Nat.div_eq_zero_iff.1 hc with h0 | h0
      · have := Nat.two_pow_pos (F + 1); omega
      · exact h0
    rw [if_pos (by omega), numeralref11_Pack.j6, if_pos rfl]
  · rw [if_neg (by omega), numeralref11_Pack.j6, if_pos rfl]
/-- From the loops' begin: the end's arguments. -/
theorem rloops {size F E S : Nat} {L : Int} {I : Nat} (h : IsFmt size F E S L I) (O n : Nat) (hO : O % 2 = 1) (hm : O * 2 ^ n < 18446744073709551616) (hn : n < 64) (e : Int) (he0 : -4000 ≤ e) (he1 : e ≤ 4000) (b : Bool) (c1 c2 c3 : Int) (k : Nat) (hk : 190 ≤ k) :
    ∃ (w k' : Nat), numeralref11_Pack.l0 k size ((O * 2 ^ n : Nat) : Int) e F b c1 c2 c3 = numeralref11_Pack.j5 (k' + 2) size ((O * 2 ^ w : Nat) : Int) (e + n - w) F b c1 c2 c3 ∧ (2 ^ F ≤ O * 2 ^ w ∨ e + n - w ≤ L) ∧ (w = 0 ∨ O * 2 ^ w < 2 ^ (F + 1) ∧ L ≤ e + n - w) := by
  obtain ⟨hF0, hF, hS, hFS, hL, _, hF23⟩ := fmt_small h
  obtain ⟨k1, hk1⟩ : ∃ k1, k = k1 + n + 1 := ⟨k - n - 1, by omega⟩
  obtain ⟨v, hv, hl, hc⟩ := rl0 h O hO (e + n) (by omega) b c1 c2 c3 k1 n hm (by omega)
  obtain ⟨k2, hk2⟩ : ∃ k2, k1 + v = (k2 + F + 1) + 1 ∧ 2 ≤ k2 := ⟨k1 + v - F - 2, by omega, by omega⟩
  have hv64 : O * 2 ^ v < 18446744073709551616 := Nat.lt_of_le_of_lt (Nat.mul_le_mul_left _ (Nat.pow_le_pow_right (by decide) hv)) hm
  have hpos : 1 ≤ O * 2 ^ v := Nat.mul_pos (by omega) (Nat.two_pow_pos v)
  obtain ⟨w, k', hw, hk', hl2, hc2, hq2⟩ := rl1 h O (e + n) b c1 c2 c3 k2 F v hv64 (by omega) (by omega) (by have := Nat.mul_le_mul_right (2 ^ F) hpos; omega)
  refine ⟨w, k' - 2, ?_, hc2, ?_⟩
  · rw [show e + (n : Int) - (n : Int) = e by omega] at hl
    rw [hk1, hl, hk2.1, numeralref11_Pack.j3, hl2, show k' - 2 + 2 = k' by omega]
  · rcases hq2 with rfl | hq2
    · exact hc
    · exact .inr hq2
theorem rPack_enter {size F E S : Nat} {L : Int} {I : Nat} (h : IsFmt size F E S L I) {m : Nat} (hm0 : 0 < m) {e : Int} (he0 : -4000 ≤ e) (he1 : e ≤ 4000) (neg : Bool) (k : Nat) :
    numeralref11_Pack.f (k + 2) neg 2 (m : Int) e size = numeralref11_Pack.l0 k size (m : Int) e F neg 2 (m : Int) e := by
  obtain ⟨hF0, hF, hS, hFS, hL, _, hF23⟩ := fmt_small h
  unfold numeralref11_Pack.f
  rw [bind_eq (rsize_ok h), if_pos rfl, if_neg (by decide), if_neg (by decide), if_pos rfl, if_neg (by omega), numeralref11_Pack.j0, if_neg (by decide), if_neg (by decide), if_neg (by decide), bind_eq (rfrac_ok h), wrapu_id (n := (F : Int)) (by omega) (by omega), if_neg (by omega), decide_eq_false (by omega), numeralref11_Pack.j1, if_neg (by decide)]
theorem rPack_far {size F E S : Nat} {L : Int} {I : Nat} (h : IsFmt size F E S L I) {m : Nat} (hm0 : 0 < m) {e : Int} (he : e < -4000 ∨ 4000 < e) (neg : Bool) (k : Nat) :
    numeralref11_Pack.f (k + 2) neg 2 (m : Int) e size = some (0, 4) := by
  obtain ⟨hF0, hF, hS, hFS, hL, _, hF23⟩ := fmt_small h
  unfold numeralref11_Pack.f
  rw [bind_eq (rsize_ok h), if_pos rfl, if_neg (by decide), if_neg (by decide), if_pos rfl, if_neg (by omega), numeralref11_Pack.j0, if_neg (by decide), if_neg (by decide), if_neg (by decide), bind_eq (rfrac_ok h), wrapu_id (n := (F : Int)) (by omega) (by omega)]
  by_cases hc : e < -4000
  · rw [if_pos hc, numeralref11_Pack.j1, if_pos rfl]
  · rw [if_neg hc, decide_eq_true (by omega), numeralref11_Pack.j1, if_pos rfl]
theorem rPack_rep {size F E S : Nat} {L : Int} {I : Nat} (h : IsFmt size F E S L I) {o n u : Nat} {e : Int} (hm : (2 * o + 1) * 2 ^ n < 18446744073709551616) (hn64 : n < 64)
    (he0 : -4000 ≤ e) (he1 : e ≤ 4000) (hr : Rep F L (e + n) (2 * o + 1) u) (neg : Bool) (k : Nat) :
    numeralref11_Pack.f (k + 200) neg 2 (((2 * o + 1) * 2 ^ n : Nat) : Int) e size = some (signv S neg (packv F E L ((2 * o + 1) * 2 ^ u) (e + n - u))) := by
  obtain ⟨hF0, hF, hS, hFS, hL, _, hF23⟩ := fmt_small h
  have hpos : 0 < (2 * o + 1) * 2 ^ n := Nat.mul_pos (by omega) (Nat.two_pow_pos n)
  obtain ⟨ho, ht⟩ := Rep_pos hr
  obtain ⟨w, k', hl, hc, hq⟩ := rloops h (2 * o + 1) n (by omega) hm hn64 e he0 he1 neg 2 (((2 * o + 1) * 2 ^ n : Nat) : Int) e (k + 198) (by omega)
  have hq2 : (2 * o + 1) * 2 ^ w < 2 ^ (F + 1) ∧ L ≤ e + n - w := by
    rcases hq with rfl | hq
    · exact ⟨by rw [Nat.pow_zero, Nat.mul_one]; exact ho, by omega⟩
    · exact hq
  have hw : Rep F L (e + n) (2 * o + 1) w := ⟨hq2.1, hq2.2, by omega⟩
  obtain rfl := Rep_unique hr hw
  rw [rPack_enter h hpos he0 he1 neg (k + 198), hl, rj5_ok h hq2.1 hq2.2 (by omega) (by omega)]
theorem rPack_none {size F E S : Nat} {L : Int} {I : Nat} (h : IsFmt size F E S L I) {o n : Nat} {e : Int} (hm : (2 * o + 1) * 2 ^ n < 18446744073709551616) (hn64 : n < 64)
    (he0 : -4000 ≤ e) (he1 : e ≤ 4000) (hr : 2 ^ (F + 1) ≤ 2 * o + 1 ∨ e + n < L) (neg : Bool) (k : Nat) :
    numeralref11_Pack.f (k + 200) neg 2 (((2 * o + 1) * 2 ^ n : Nat) : Int) e size = some (0, 4) := by
  have hpos : 0 < (2 * o + 1) * 2 ^ n := Nat.mul_pos (by omega) (Nat.two_pow_pos n)
  obtain ⟨w, k', hl, hc, hq⟩ := rloops h (2 * o + 1) n (by omega) hm hn64 e he0 he1 neg 2 (((2 * o + 1) * 2 ^ n : Nat) : Int) e (k + 198) (by omega)
  have hw : w = 0 := by
    rcases hq with hq | hq
    · exact hq
    · have : 2 * o + 1 ≤ (2 * o + 1) * 2 ^ w := Nat.le_mul_of_pos_right _ (Nat.two_pow_pos w)
      omega
  subst hw
  rw [rPack_enter h hpos he0 he1 neg (k + 198), hl, rj5_none h (by rw [Nat.pow_zero, Nat.mul_one]; omega)]
theorem odd_part {m : Nat} (h0 : 0 < m) (h : m < 18446744073709551616) : ∃ o n, m = (2 * o + 1) * 2 ^ n ∧ Lib.ctz 64 ((2 * o + 1) * 2 ^ n) = n ∧ n < 64 := by
  obtain ⟨o, h1, h2⟩ := ctz_spec h0 h
  exact ⟨o, Lib.ctz 64 m, h1, by rw [← h1], h2⟩
theorem rep_or {F : Nat} {L t : Int} {o : Nat} (hF : F < 63) : (∃ u, Rep F L t (2 * o + 1) u) ∨ (2 ^ (F + 1) ≤ 2 * o + 1 ∨ t < L) := by
  by_cases h1 : 2 * o + 1 < 2 ^ (F + 1)
  · by_cases h2 : L ≤ t
    · exact .inl ⟨_, (bitLen_rep (by omega) h1 h2 hF).2⟩
    · exact .inr (.inr (by omega))
  · exact .inr (.inl (by omega))
end Go.Proofs.YtbjmfocjigikgaaDoor.XrB
end
section
namespace Go.Proofs.YtbjmfocjigikgaaDoor.XrB
open Go.RowKit Go.Proofs.YtbjmfocjigikgaaDoor.Xr Go.Proofs.YtbjmfocjigikgaaDoor.A Go.Proofs.YtbjmfocjigikgaaDoorW.PrintWords Go.Proofs.YtbjmfocjigikgaaDoorW.PrintLast Go.Proofs.YtbjmfocjigikgaaDoorW.PrintMore
set_option linter.unusedSimpArgs false
set_option linter.unusedVariables false
end Go.Proofs.YtbjmfocjigikgaaDoor.XrB
end
section
namespace Go.Proofs.YtbjmfocjigikgaaDoor.XrB
open Go.RowKit Go.Proofs.YtbjmfocjigikgaaDoor.Xr Go.Proofs.YtbjmfocjigikgaaDoor.A Go.Proofs.YtbjmfocjigikgaaDoorW.PrintWords Go.Proofs.YtbjmfocjigikgaaDoorW.PrintLast Go.Proofs.YtbjmfocjigikgaaDoorW.PrintMore
set_option linter.unusedSimpArgs false
set_option linter.unusedVariables false
end Go.Proofs.YtbjmfocjigikgaaDoor.XrB
end
section
namespace Go.Proofs.YtbjmfocjigikgaaDoor.XrB
open Go.RowKit Go.Proofs.YtbjmfocjigikgaaDoor.Xr Go.Proofs.YtbjmfocjigikgaaDoor.A Go.Proofs.YtbjmfocjigikgaaDoorW.PrintWords Go.Proofs.YtbjmfocjigikgaaDoorW.PrintLast Go.Proofs.YtbjmfocjigikgaaDoorW.PrintMore
set_option linter.unusedSimpArgs false
set_option linter.unusedVariables false
/-- The signed float of a magnitude. -/
def sgn (S : Nat) (neg : Bool) (m : Nat) : Nat := if neg then m + 2 ^ S else m
theorem signv_nat (S : Nat) (neg : Bool) (q : Nat) : signv S neg ((q : Int), 0) = (((sgn S neg q : Nat) : Int), 0) := by
  unfold signv sgn
  cases neg
  · rfl
  · rw [if_pos rfl, if_pos rfl, if_pos rfl, Int.natCast_add, Int.natCast_pow]; rfl
end Go.Proofs.YtbjmfocjigikgaaDoor.XrB
end
section
namespace Go.Proofs.YtbjmfocjigikgaaDoor.XrB
open Go.RowKit Go.Proofs.YtbjmfocjigikgaaDoor.Xr Go.Proofs.YtbjmfocjigikgaaDoor.A Go.Proofs.YtbjmfocjigikgaaDoor.Q Go.Proofs.YtbjmfocjigikgaaDoorW.PrintWords Go.Proofs.YtbjmfocjigikgaaDoorW.PrintLast Go.Proofs.YtbjmfocjigikgaaDoorW.PrintMore
set_option linter.unusedSimpArgs false
set_option linter.unusedVariables false
/-- What Pack answers for the bits b, if there were no greatest. -/
def outb (S I : Nat) (neg : Bool) (b : Nat) : Int × Option Int := if I ≤ b then (0, some 4) else (((sgn S neg b : Nat) : Int), none)
end Go.Proofs.YtbjmfocjigikgaaDoor.XrB
end
section
namespace Go.Proofs.YtbjmfocjigikgaaDoor.XrB
open Go.RowKit Go.Proofs.YtbjmfocjigikgaaDoor.Xr Go.Proofs.YtbjmfocjigikgaaDoor.A Go.Proofs.YtbjmfocjigikgaaDoor.Q Go.Proofs.YtbjmfocjigikgaaDoorW.PrintWords Go.Proofs.YtbjmfocjigikgaaDoorW.PrintLast Go.Proofs.YtbjmfocjigikgaaDoorW.PrintMore
set_option linter.unusedSimpArgs false
set_option linter.unusedVariables false
theorem Pack_zero' {size F E S : Nat} {L : Int} {I : Nat} (h : IsFmt size F E S L I) (k : Nat) (neg : Bool) (m e : Int) : bits_Pack.f k neg 1 m e size = some (((sgn S neg 0 : Nat) : Int), none) := by
  rw [Pack_zero h]; unfold sgn
  cases neg
  · rfl
  · rw [if_pos rfl, if_pos rfl, Nat.zero_add]
theorem Pack_inf' {size F E S : Nat} {L : Int} {I : Nat} (h : IsFmt size F E S L I) (k : Nat) (neg : Bool) (m e : Int) : bits_Pack.f k neg 3 m e size = some (((sgn S neg I : Nat) : Int), none) := Pack_inf h k neg m e
end Go.Proofs.YtbjmfocjigikgaaDoor.XrB
end
section
namespace Go.Proofs.YtbjmfocjigikgaaDoor.XrB
open Go.RowKit Go.Proofs.YtbjmfocjigikgaaDoor.Xr Go.Proofs.YtbjmfocjigikgaaDoor.A Go.Proofs.YtbjmfocjigikgaaDoorW.PrintWords Go.Proofs.YtbjmfocjigikgaaDoorW.PrintLast Go.Proofs.YtbjmfocjigikgaaDoorW.PrintMore
set_option linter.unusedSimpArgs false
set_option linter.unusedVariables false
def pv (S : Nat) (neg : Bool) : Option Nat → Int × Option Int
  | some q => (((sgn S neg q : Nat) : Int), none)
  | none => (0, some 4)
def rv (S : Nat) (neg : Bool) : Option Nat → Int × Int
  | some q => (((sgn S neg q : Nat) : Int), 0)
  | none => (0, 4)
theorem signv_opt {size F E S : Nat} {L : Int} {I : Nat} (h : IsFmt size F E S L I) {M : Nat} {X : Int} (hM : M < 2 ^ (F + 1)) (hX : L ≤ X) :
    ∃ b : Option Nat, (∀ q, b = some q → q < 2 ^ S) ∧ ∀ neg, ((signv S neg (packv F E L M X)).1, errv (signv S neg (packv F E L M X)).2) = pv S neg b ∧ signv S neg (packv F E L M X) = rv S neg b := by
  rcases packv_err F E L M X with h0 | h0
  · obtain ⟨q, q1, q2⟩ := packv_nat h hM hX h0
    refine ⟨some q, fun q' e => (by cases e; exact q2), fun neg => ?_⟩
    rw [q1, signv_nat]
    exact ⟨rfl, rfl⟩
  · refine ⟨none, fun q' e => (by cases e), fun neg => ?_⟩
    rw [h0]
    exact ⟨rfl, rfl⟩
theorem Pack_opt {size F E S : Nat} {L : Int} {I : Nat} (h : IsFmt size F E S L I) {m : Nat} (hm0 : 0 < m) (hm : m < 18446744073709551616) (e : Int) :
    ∃ b : Option Nat, (∀ q, b = some q → q < 2 ^ S) ∧ ∀ (neg : Bool) (k : Nat), bits_Pack.f (k + 200) neg 2 (m : Int) e size = some (pv S neg b) ∧ numeralref11_Pack.f (k + 200) neg 2 (m : Int) e size = some (rv S neg b) := by
  obtain ⟨hF0, hF, hS, hFS, hL, _, hF23⟩ := fmt_small h
  obtain ⟨o, n, rfl, hn, hn64⟩ := odd_part hm0 hm
  by_cases hfar : e < -5000 ∨ 5000 < e
  · exact ⟨none, fun q e => (by cases e), fun neg k => ⟨Pack_far h hm0 hm hfar neg (k + 199), rPack_far h hm0 (by omega) neg (k + 198)⟩⟩
  · rcases rep_or (F := F) (L := L) (t := e + n) (o := o) hF with ⟨u, hr⟩ | hr
    · by_cases hf2 : e < -4000 ∨ 4000 < e
      · refine ⟨none, fun q e => (by cases e), fun neg k => ⟨?_, rPack_far h hm0 hf2 neg (k + 198)⟩⟩
        rw [Pack_rep h hm hn hn64 (by omega) (by omega) hr neg (k + 198)]
        obtain ⟨r1, r2, r3⟩ := hr
        have hu : u ≤ F + 1 := by
          rcases Nat.lt_or_ge (F + 1) u with hc | hc
          · have h1 : 2 ^ (F + 1) ≤ 2 ^ u := Nat.pow_le_pow_right (by decide) (by omega)
            have h2 : 2 ^ u ≤ (2 * o + 1) * 2 ^ u := Nat.le_mul_of_pos_left _ (by omega)
            omega
          · exact hc
        have hbig : 2000 < e + n - u - L := by omega
        have hMF : ¬ (2 * o + 1) * 2 ^ u < 2 ^ F := by omega
        have hE := fmt_E h
        have hpk : packv F E L ((2 * o + 1) * 2 ^ u) (e + n - u) = (0, 4) := by
          unfold packv
          rw [if_neg hMF, if_pos (by rcases hE with ⟨h1, _⟩ | ⟨h1, _⟩ <;> omega)]
        rw [hpk]; rfl
      · obtain ⟨r1, r2, r3⟩ := hr
        obtain ⟨b, b1, b2⟩ := signv_opt h r1 r2
        refine ⟨b, b1, fun neg k => ?_⟩
        rw [← (b2 neg).1, ← (b2 neg).2]
        exact ⟨Pack_rep h hm hn hn64 (by omega) (by omega) ⟨r1, r2, r3⟩ neg (k + 198), rPack_rep h hm hn64 (by omega) (by omega) ⟨r1, r2, r3⟩ neg k⟩
    · refine ⟨none, fun q e => (by cases e), fun neg k => ⟨Pack_none h hm hn hn64 (by omega) (by omega) hr neg (k + 198), ?_⟩⟩
      by_cases hf2 : e < -4000 ∨ 4000 < e
      · exact rPack_far h hm0 hf2 neg (k + 198)
      · exact rPack_none h hm hn64 (by omega) (by omega) hr neg k
/-- What both answer: the rounded mantissa Q times two to the last, with its sign; the greatest where it is beyond. -/
def ans (S I : Nat) (neg : Bool) (Q : Nat) (b : Option Nat) : Int × Int :=
  if Q = 0 then (((sgn S neg 0 : Nat) : Int), 0) else match b with
    | some q => (((sgn S neg q : Nat) : Int), 0)
    | none => (((sgn S neg I : Nat) : Int), 4)
end Go.Proofs.YtbjmfocjigikgaaDoor.XrB
end
section
namespace Go.Proofs.YtbjmfocjigikgaaDoor.XrH
open Go.RowKit Go.Proofs.YtbjmfocjigikgaaDoor.Xr Go.Proofs.YtbjmfocjigikgaaDoor.A Go.Proofs.YtbjmfocjigikgaaDoor.L Go.Proofs.YtbjmfocjigikgaaDoorW.PrintWords Go.Proofs.YtbjmfocjigikgaaDoorW.PrintLast Go.Proofs.YtbjmfocjigikgaaDoorW.PrintMore
set_option linter.unusedSimpArgs false
set_option linter.unusedVariables false
theorem bind_eqh {α β : Type} {o : Option α} {x : α} {f : α → Option β} (h : o = some x) : o.bind f = f x := by rw [h]; rfl
theorem rd_nat (l : List Int) (i : Nat) : rd l (i : Int) = l.getD i 0 := by unfold rd; rw [Int.toNat_natCast]
theorem dig_at {B : Nat} {l : List Int} (h : okl B l) (hB : 0 < B) (i : Nat) : ∃ x : Nat, rd l (i : Int) = x ∧ x < B ∧ (l.getD i 0).toNat = x := by
  have h1 := okl_get h i hB
  refine ⟨(l.getD i 0).toNat, ?_, by omega, rfl⟩
  rw [rd_nat]; omega
theorem nv_take_step (B : Nat) (l : List Int) (i : Nat) : nv B (l.take (i + 1)) = nv B (l.take i) + B ^ i * (l.getD i 0).toNat := by
  rcases Nat.lt_or_ge i l.length with h | h
  · exact nv_take_succ B h
  · rw [List.take_of_length_le (by omega), List.take_of_length_le h]
    have : l.getD i 0 = 0 := by simp [List.getD, h]
    rw [this]; rfl
theorem add_step {P B a s x y c d c' : Nat} (h : s + P * c = a) (hd : d + B * c' = x + y + c) : s + P * d + P * B * c' = a + P * x + P * y := by
  have h2 := congrArg (P * ·) hd
  simp only [Nat.mul_add] at h2
  rw [Nat.mul_assoc]; omega
theorem sub_step {P B a b s x y w d w' : Nat} (h : s + b = a + P * w) (hd : d + y + w = x + B * w') : s + P * d + (b + P * y) = a + P * x + P * B * w' := by
  have h2 := congrArg (P * ·) hd
  simp only [Nat.mul_add] at h2
  rw [Nat.mul_assoc]; omega
def B64 : Nat := 18446744073709551616
def B32 : Nat := 4294967296
theorem b64_pos : 0 < B64 := by decide
theorem b32_pos : 0 < B32 := by decide
theorem b64_one : 1 < B64 := by decide
theorem b32_one : 1 < B32 := by decide
theorem okl_of_wf {l : List Int} (h : ∀ x ∈ l, (Lit.int .u64 x).wf = true) : okl B64 l := fun x hx => wf_u64 (h x hx)
def errn (c : Int) : Option Int := if c = 0 then none else some c
/-- The number of a row's error. -/
def vnum (l : List Int) : Int := if 128 < l.length then 20 else if 0 < l.length ∧ l.getD (l.length - 1) 0 = 0 then 1 else 0
theorem last_getD {l : List Int} (h : l ≠ []) : l.getLast? = some (l.getD (l.length - 1) 0) := by
  have h0 : 0 < l.length := List.length_pos_iff.2 h
  rw [List.getLast?_eq_getElem?]
  have h1 : l.length - 1 < l.length := by omega
  simp [List.getD, h1]
theorem top_iff (l : List Int) : top l ↔ ¬ (0 < l.length ∧ l.getD (l.length - 1) 0 = 0) := by
  by_cases h : l = []
  · subst h; simp [top]
  · have h0 : 0 < l.length := List.length_pos_iff.2 h
    unfold top
    rw [last_getD h]
    constructor
    · intro h1 h2; exact h1 _ rfl h2.2
    · intro h1 x hx h2; injection hx with hx; subst hx; exact h1 ⟨h0, h2⟩
theorem vnum_zero (l : List Int) : vnum l = 0 ↔ l.length ≤ 128 ∧ top l := by
  rw [top_iff]; unfold vnum
  by_cases h : 128 < l.length
  · rw [if_pos h]; exact ⟨fun h3 => absurd h3 (by decide), fun h3 => by omega⟩
  · rw [if_neg h]
    by_cases h2 : 0 < l.length ∧ l.getD (l.length - 1) 0 = 0
    · rw [if_pos h2]; exact ⟨fun h3 => absurd h3 (by decide), fun h3 => absurd h2 h3.2⟩
    · rw [if_neg h2]; exact ⟨fun _ => ⟨by omega, h2⟩, fun _ => rfl⟩
theorem rd_last {l : List Int} (h0 : 0 < l.length) (hl : l.length < 1000000000000000) : 0 ≤ wrap64 ((l.length : Int) - 1) ∧ wrap64 ((l.length : Int) - 1) < l.length ∧ rd l (wrap64 ((l.length : Int) - 1)) = l.getD (l.length - 1) 0 := by
  rw [wrapi_id (by omega) (by omega)]
  refine ⟨by omega, by omega, ?_⟩
  unfold rd
  rw [show ((l.length : Int) - 1).toNat = l.length - 1 by omega]
theorem rValid_ok {l : List Int} (hl : l.length < 1000000000000000) : numeralref02_Valid.f l = some (vnum l) := by
  unfold numeralref02_Valid.f vnum
  by_cases h : 128 < l.length
  · rw [if_pos (by omega), if_pos h]
  · rw [if_neg (by omega), if_neg h]
    by_cases h0 : 0 < l.length
    · obtain ⟨r1, r2, r3⟩ := rd_last h0 hl
      rw [if_pos (by omega), if_pos r1, if_pos r2, r3]
      by_cases h2 : l.getD (l.length - 1) 0 = 0
      · rw [if_pos h2, if_pos ⟨h0, h2⟩]
      · rw [if_neg h2, if_neg (fun h3 => h2 h3.2)]
    · rw [if_neg (by omega), if_neg (fun h3 => h0 h3.1)]
theorem Valid_ok {l : List Int} (hl : l.length < 1000000000000000) : nat_Valid.f l = some (errn (vnum l)) := by
  unfold nat_Valid.f vnum
  by_cases h : 128 < l.length
  · rw [if_pos (by omega), if_pos h]; rfl
  · rw [if_neg (by omega), if_neg h]
    by_cases h0 : 0 < l.length
    · obtain ⟨r1, r2, r3⟩ := rd_last h0 hl
      rw [if_pos (by omega), if_pos r1, if_pos r2, r3]
      by_cases h2 : l.getD (l.length - 1) 0 = 0
      · rw [if_pos h2, if_pos ⟨h0, h2⟩]; rfl
      · rw [if_neg h2, if_neg (fun h3 => h2 h3.2)]; rfl
    · rw [if_neg (by omega), if_neg (fun h3 => h0 h3.1)]; rfl
/-- The number of two rows' error. -/
def vtwo (a b : List Int) : Int := if vnum a = 0 then vnum b else vnum a
theorem errn_isNone (c : Int) : (errn c).isNone = true ↔ c = 0 := by
  unfold errn
  by_cases h : c = 0
  · rw [if_pos h]; simp [h]
  · rw [if_neg h]; simp [h]
theorem errn_getD {c : Int} (h : c ≠ 0) : some ((errn c).getD 0) = errn c := by unfold errn; rw [if_neg h]; rfl
/-! trimming -/
theorem rtrim_l0 (l : List Int) (hl : l.length < 1000000000000000) : ∀ (n k : Nat), n ≤ l.length → n + 1 ≤ k → ∃ m, m ≤ n ∧ numeralref02_trim.l0 k l (n : Int) = some (l.take m) ∧ top (l.take m) ∧ (∀ B, nv B (l.take m) = nv B (l.take n))
  | 0, k + 1, hn, hk => by
    refine ⟨0, Nat.le_refl _, ?_, top_nil, fun _ => rfl⟩
    rw [numeralref02_trim.l0, if_neg (by omega), if_pos (by omega), if_pos (by omega)]; rfl
  | n + 1, k + 1, hn, hk => by
    rw [numeralref02_trim.l0, if_pos (by omega), wrapi_id (n := ((n + 1 : Nat) : Int) - 1) (by omega) (by omega), show ((n + 1 : Nat) : Int) - 1 = (n : Int) by omega, if_pos (by omega), if_pos (by omega)]
    by_cases h0 : rd l (n : Int) = 0
    · obtain ⟨m, hm, hr, ht, hv⟩ := rtrim_l0 l hl n k (by omega) (by omega)
      refine ⟨m, by omega, by rw [if_pos h0]; exact hr, ht, fun B => ?_⟩
      rw [hv, nv_take_step, ← rd_nat, h0]; rfl
    · refine ⟨n + 1, Nat.le_refl _, ?_, ?_, fun _ => rfl⟩
      · rw [if_neg h0, if_pos (by omega), if_pos (by omega), Int.toNat_natCast]
      · rw [take_get (by omega), ← rd_nat]; exact top_snoc h0
theorem rtrim_ok {l : List Int} (hl : l.length < 1000000000000000) {k : Nat} (hk : l.length + 1 ≤ k) : ∃ m, m ≤ l.length ∧ numeralref02_trim.f k l = some (l.take m) ∧ top (l.take m) ∧ (∀ B, nv B (l.take m) = nv B l) := by
  obtain ⟨m, h1, h2, h3, h4⟩ := rtrim_l0 l hl l.length k (Nat.le_refl _) hk
  refine ⟨m, h1, h2, h3, fun B => ?_⟩
  rw [h4, List.take_length]
/-! words as digits of 32 bits -/
theorem of_l0 {l : List Int} (ho : okl B64 l) (hl : l.length ≤ 128) : ∀ (n k i : Nat) (acc : List Int), i + n = l.length → n + 300 ≤ k → okl B32 acc → acc.length = 2 * i → nv B32 acc = nv B64 (l.take i) →
    ∃ p, numeralref02_Of.l0 k l acc (i : Int) = some p ∧ okl B32 p ∧ top p ∧ nv B32 p = nv B64 l ∧ p.length ≤ 256
  | 0, k + 1, i, acc, hi, hk, ha, hlen, hv => by
    obtain ⟨m, h1, h2, h3, h4⟩ := rtrim_ok (l := acc) (by omega) (k := k) (by omega)
    refine ⟨acc.take m, ?_, okl_take ha m, h3, ?_, by rw [List.length_take]; omega⟩
    · rw [numeralref02_Of.l0, if_neg (by omega), bind_eqh h2]
    · rw [h4, hv, List.take_of_length_le (by omega)]
  | n + 1, k + 1, i, acc, hi, hk, ha, hlen, hv => by
    obtain ⟨x, hx, hxB, hxn⟩ := dig_at ho b64_pos i
    have hxB' : x < 18446744073709551616 := hxB
    have e1 : (x : Int) % 4294967296 = ((x % 4294967296 : Nat) : Int) := by omega
    have e2 : (x : Int) / 4294967296 % 4294967296 = ((x / 4294967296 : Nat) : Int) := by omega
    have ha2 : okl B32 (acc ++ [((x % 4294967296 : Nat) : Int), ((x / 4294967296 : Nat) : Int)]) := by
      rw [okl_append]
      refine ⟨ha, okl_cons.2 ⟨⟨by omega, ?_⟩, okl_cons.2 ⟨⟨by omega, ?_⟩, okl_nil _⟩⟩⟩ <;> (show _ < ((4294967296 : Nat) : Int); omega)
    have hv2 : nv B32 (acc ++ [((x % 4294967296 : Nat) : Int), ((x / 4294967296 : Nat) : Int)]) = nv B64 (l.take (i + 1)) := by
      rw [nv_append, nv_take_step, hxn, ← hv, hlen]
      have hp : B32 ^ (2 * i) = B64 ^ i := by rw [Nat.pow_mul]; rfl
      rw [hp]
      show nv B32 acc + B64 ^ i * (((x % 4294967296 : Nat) : Int).toNat + 4294967296 * (((x / 4294967296 : Nat) : Int).toNat + 4294967296 * 0)) = _
      rw [Int.toNat_natCast, Int.toNat_natCast, show x % 4294967296 + 4294967296 * (x / 4294967296 + 4294967296 * 0) = x by omega]
    obtain ⟨p, hp1, hp2⟩ := of_l0 ho hl n k (i + 1) _ (by omega) (by omega) ha2 (by rw [List.length_append, hlen]; simp; omega) hv2
    refine ⟨p, ?_, hp2⟩
    rw [numeralref02_Of.l0, if_pos (by omega), if_pos (by omega), hx, e1, e2, Option.bind_some, if_pos (by rw [hlen]; simp; omega), wrapi_id (n := (i : Int) + 1) (by omega) (by omega), show (i : Int) + 1 = ((i + 1 : Nat) : Int) by omega]
    exact hp1
theorem of_ok {l : List Int} (ho : okl B64 l) (hl : l.length ≤ 128) {k : Nat} (hk : 500 ≤ k) : ∃ p, numeralref02_Of.f k l = some p ∧ okl B32 p ∧ top p ∧ nv B32 p = nv B64 l ∧ p.length ≤ 256 :=
  of_l0 ho hl l.length k 0 [] (by omega) (by omega) (okl_nil _) rfl rfl
/-! digits of 32 bits as words -/
end Go.Proofs.YtbjmfocjigikgaaDoor.XrH
end
section
namespace Go.Proofs.YtbjmfocjigikgaaDoor.XrH
open Go.RowKit Go.Proofs.YtbjmfocjigikgaaDoor.Xr Go.Proofs.YtbjmfocjigikgaaDoor.A Go.Proofs.YtbjmfocjigikgaaDoor.L Go.Proofs.YtbjmfocjigikgaaDoorW.PrintWords Go.Proofs.YtbjmfocjigikgaaDoorW.PrintLast Go.Proofs.YtbjmfocjigikgaaDoorW.PrintMore
set_option linter.unusedSimpArgs false
set_option linter.unusedVariables false
theorem u64ok_nat {a : Nat} (h : a < 18446744073709551616) : u64ok (a : Int) = true := decide_eq_true ⟨by omega, by omega⟩
theorem sub64_ok {x y c : Nat} (hx : x < B64) (hy : y < B64) (hc : c ≤ 1) : bits_Sub64.f (x : Int) (y : Int) (c : Int) = some ((((x + B64 - y - c) % B64 : Nat) : Int), ((if x < y + c then 1 else 0 : Nat) : Int)) := by
  have hx' : x < 18446744073709551616 := hx
  have hy' : y < 18446744073709551616 := hy
  have hcc : (((c : Int) == 0) || ((c : Int) == 1)) = true := by
    rcases (by omega : c = 0 ∨ c = 1) with rfl | rfl <;> rfl
  unfold bits_Sub64.f
  rw [u64ok_nat hx', u64ok_nat hy', hcc, if_pos (by rfl)]
  unfold B64
  have e1 : ((x : Int) + 18446744073709551616 - (y : Int) - (c : Int)) % 18446744073709551616 = (((x + 18446744073709551616 - y - c) % 18446744073709551616 : Nat) : Int) := by omega
  have e2 : (if (x : Int) < (y : Int) + (c : Int) then (1 : Int) else 0) = ((if x < y + c then 1 else 0 : Nat) : Int) := by
    by_cases h : x < y + c
    · rw [if_pos (by omega), if_pos h]; rfl
    · rw [if_neg (by omega), if_neg h]; rfl
  rw [e1, e2]
theorem take_set_succ {l : List Int} {i : Nat} (x : Int) (hi : i < l.length) : (l.set i x).take (i + 1) = l.take i ++ [x] := by
  rw [take_get (by rw [List.length_set]; exact hi)]
  congr 1
  · rw [List.take_set, List.set_eq_of_length_le (by rw [List.length_take]; omega)]
  · simp [List.getD, hi]
/-! the program's sum -/
/-! the reference's sum -/
theorem plus_l0 {a b : List Int} (ha : okl B32 a) (hb : okl B32 b) (hla : a.length ≤ 300) (hlb : b.length ≤ 300) : ∀ (n k i c : Nat) (acc : List Int), i + n = max a.length b.length → 2 * n + 400 ≤ k → okl B32 acc → acc.length = i → c ≤ 1 →
    nv B32 acc + B32 ^ i * c = nv B32 (a.take i) + nv B32 (b.take i) →
    ∃ p, numeralref02_Plus.l0 k a b acc (c : Int) (i : Int) = some p ∧ okl B32 p ∧ top p ∧ nv B32 p = nv B32 a + nv B32 b ∧ p.length ≤ 301 := by
  intro n
  induction n with
  | zero =>
    intro k i c acc hi hk ho hlen hc hv
    obtain ⟨k, rfl⟩ : ∃ q, k = q + 1 + 1 := ⟨k - 2, by omega⟩
    have e1 : (c : Int) % 4294967296 = (c : Int) := by omega
    have hoc : okl B32 (acc ++ [(c : Int)]) := by
      rw [okl_append]
      refine ⟨ho, okl_cons.2 ⟨⟨by omega, ?_⟩, okl_nil _⟩⟩
      show _ < ((4294967296 : Nat) : Int); omega
    obtain ⟨m, m1, m2, m3, m4⟩ := rtrim_ok (l := acc ++ [(c : Int)]) (by simp; omega) (k := k) (by simp; omega)
    refine ⟨_, ?_, okl_take hoc m, m3, ?_, by rw [List.length_take]; simp; omega⟩
    · rw [numeralref02_Plus.l0, if_neg (by omega), decide_eq_false (by omega), numeralref02_Plus.j1, if_neg (by decide), if_pos (by omega), e1, bind_eqh m2]
    · rw [m4, nv_snoc, Int.toNat_natCast, hlen, hv, List.take_of_length_le (by omega), List.take_of_length_le (by omega)]
  | succ n ih =>
    intro k i c acc hi hk ho hlen hc hv
    obtain ⟨k, rfl⟩ : ∃ q, k = q + 1 + 1 := ⟨k - 2, by omega⟩
    obtain ⟨x, hx, hxB, hxn⟩ := dig_at ha b32_pos i
    obtain ⟨y, hy, hyB, hyn⟩ := dig_at hb b32_pos i
    have hxB' : x < 4294967296 := hxB
    have hyB' : y < 4294967296 := hyB
    have hc' : (x + y + c) / B32 ≤ 1 := by
      have h1 : x + y + c < 2 * B32 := by omega
      have := (Nat.div_lt_iff_lt_mul b32_pos).2 h1
      omega
    have hoc : okl B32 (acc ++ [(((x + y + c) % B32 : Nat) : Int)]) := by
      rw [okl_append]
      have := Nat.mod_lt (x + y + c) b32_pos
      exact ⟨ho, okl_cons.2 ⟨⟨by omega, by omega⟩, okl_nil _⟩⟩
    have hstep := add_step (P := B32 ^ i) (B := B32) (x := x) (y := y) (d := (x + y + c) % B32) (c' := (x + y + c) / B32) hv (Nat.mod_add_div (x + y + c) B32)
    have hv2 : nv B32 (acc ++ [(((x + y + c) % B32 : Nat) : Int)]) + B32 ^ (i + 1) * ((x + y + c) / B32) = nv B32 (a.take (i + 1)) + nv B32 (b.take (i + 1)) := by
      rw [nv_snoc, nv_take_step, nv_take_step, hxn, hyn, Int.toNat_natCast, Nat.pow_succ, hlen]
      omega
    obtain ⟨p, p1, p2⟩ := ih k (i + 1) ((x + y + c) / B32) _ (by omega) (by omega) hoc (by simp [hlen]) hc' hv2
    refine ⟨p, ?_, p2⟩
    have e1 : ((x + y + c : Nat) : Int) % 4294967296 = (((x + y + c) % B32 : Nat) : Int) := by unfold B32; omega
    have e2 : ((x + y + c : Nat) : Int) / 4294967296 = (((x + y + c) / B32 : Nat) : Int) := by unfold B32; omega
    have hx0 : ¬ i < a.length → x = 0 := by
      intro h
      have : a.getD i 0 = 0 := by simp [List.getD, h]
      rw [this] at hxn; exact hxn.symm
    have hy0 : ¬ i < b.length → y = 0 := by
      intro h
      have : b.getD i 0 = 0 := by simp [List.getD, h]
      rw [this] at hyn; exact hyn.symm
    have hj : numeralref02_Plus.l0 (k + 1 + 1) a b acc (c : Int) (i : Int) = numeralref02_Plus.j1 (k + 1) a b acc (c : Int) (i : Int) true := by
      rw [numeralref02_Plus.l0]
      by_cases h : i < a.length
      · rw [if_pos (by omega)]
      · rw [if_neg (by omega), decide_eq_true (by omega)]
    rw [hj, numeralref02_Plus.j1, if_pos rfl, hx, hy, wrapu_id (n := (x : Int)) (by omega) (by omega), wrapu_id (n := (y : Int)) (by omega) (by omega), wrapu_id (n := (c : Int) + (x : Int)) (by omega) (by omega), wrapu_id (n := (c : Int) + (y : Int)) (by omega) (by omega), wrapu_id (n := (c : Int) + (x : Int) + (y : Int)) (by omega) (by omega), wrapi_id (n := (i : Int) + 1) (by omega) (by omega), show (i : Int) + 1 = ((i + 1 : Nat) : Int) by omega]
    by_cases ha2 : i < a.length
    · rw [if_pos (by omega), if_pos (by omega)]
      by_cases hb2 : i < b.length
      · rw [if_pos (by omega), if_pos (by omega), show (c : Int) + (x : Int) + (y : Int) = ((x + y + c : Nat) : Int) by omega, e1, e2]
        exact p1
      · have := hy0 hb2
        rw [if_neg (by omega), if_pos (by omega), show (c : Int) + (x : Int) = ((x + y + c : Nat) : Int) by omega, e1, e2]
        exact p1
    · have := hx0 ha2
      rw [if_neg (by omega), if_pos (by omega), if_pos (by omega), if_pos (by omega), show (c : Int) + (y : Int) = ((x + y + c : Nat) : Int) by omega, e1, e2]
      exact p1
theorem plus_ok {a b : List Int} (ha : okl B32 a) (hb : okl B32 b) (hla : a.length ≤ 300) (hlb : b.length ≤ 300) {k : Nat} (hk : 1000 ≤ k) :
    ∃ p, numeralref02_Plus.f k a b = some p ∧ okl B32 p ∧ top p ∧ nv B32 p = nv B32 a + nv B32 b ∧ p.length ≤ 301 :=
  plus_l0 ha hb hla hlb (max a.length b.length) k 0 0 [] (by omega) (by omega) (okl_nil _) rfl (by omega) (by simp [nv])
/-! the order -/
def cmpn (a b : Nat) : Int := if a < b then -1 else if a > b then 1 else 0
theorem cmp_step {B : Nat} (hB : 0 < B) {a b : List Int} (ha : okl B a) (hb : okl B b) (i : Nat) {x y : Nat} (hx : (a.getD i 0).toNat = x) (hy : (b.getD i 0).toNat = y) (hla : i < a.length) (hlb : i < b.length) :
    (x < y → nv B (a.take (i + 1)) < nv B (b.take (i + 1))) ∧ (y < x → nv B (b.take (i + 1)) < nv B (a.take (i + 1))) ∧ (x = y → cmpn (nv B (a.take (i + 1))) (nv B (b.take (i + 1))) = cmpn (nv B (a.take i)) (nv B (b.take i))) := by
  have h1 := nv_lt hB (okl_take ha i)
  have h2 := nv_lt hB (okl_take hb i)
  rw [List.length_take, Nat.min_eq_left (by omega)] at h1 h2
  rw [nv_take_step, nv_take_step, hx, hy]
  generalize nv B (a.take i) = p at *
  generalize nv B (b.take i) = q at *
  refine ⟨fun h => ?_, fun h => ?_, fun h => ?_⟩
  · have := Nat.mul_le_mul_left (B ^ i) (show x + 1 ≤ y from h)
    rw [Nat.mul_add, Nat.mul_one] at this
    omega
  · have := Nat.mul_le_mul_left (B ^ i) (show y + 1 ≤ x from h)
    rw [Nat.mul_add, Nat.mul_one] at this
    omega
  · subst h
    unfold cmpn
    generalize B ^ i * x = z
    by_cases h3 : p < q
    · rw [if_pos h3, if_pos (by omega)]
    · rw [if_neg h3, if_neg (by omega)]
      by_cases h4 : p > q
      · rw [if_pos h4, if_pos (by omega)]
      · rw [if_neg h4, if_neg (by omega)]
theorem rcmp_l0 {B : Nat} (hB : 0 < B) {a b : List Int} (ha : okl B a) (hb : okl B b) (hlen : a.length = b.length) (hl : a.length < 1000000000000000) : ∀ (n k : Nat), n ≤ a.length → n + 1 ≤ k → numeralref02_Compare.l0 k a b ((n : Int) - 1) = some (cmpn (nv B (a.take n)) (nv B (b.take n)))
  | 0, k + 1, hn, hk => by rw [numeralref02_Compare.l0, if_neg (by omega)]; rfl
  | n + 1, k + 1, hn, hk => by
    obtain ⟨x, hx, hxB, hxn⟩ := dig_at ha hB n
    obtain ⟨y, hy, hyB, hyn⟩ := dig_at hb hB n
    obtain ⟨c1, c2, c3⟩ := cmp_step hB ha hb n hxn hyn (by omega) (by omega)
    rw [numeralref02_Compare.l0, show ((n + 1 : Nat) : Int) - 1 = (n : Int) by omega, if_pos (by omega), if_pos (by omega), if_pos (by omega), if_pos (by omega), hx, hy]
    by_cases h1 : x < y
    · rw [if_pos (by omega)]; unfold cmpn; rw [if_pos (c1 h1)]
    · rw [if_neg (by omega)]
      by_cases h2 : y < x
      · have := c2 h2
        rw [if_pos (by omega)]; unfold cmpn; rw [if_neg (by omega), if_pos this]
      · rw [if_neg (by omega), wrapi_id (n := (n : Int) - 1) (by omega) (by omega), rcmp_l0 hB ha hb hlen hl n k (by omega) (by omega), c3 (by omega)]
theorem len_lt {B : Nat} (hB : 1 < B) {a b : List Int} (ha : okl B a) (hb : okl B b) (tb : top b) (h : a.length < b.length) : nv B a < nv B b := by
  have hne : b ≠ [] := by rintro rfl; simp at h
  have h1 := top_ge (by omega) hb tb hne
  have h2 := nv_lt (by omega : 0 < B) ha
  have h3 : B ^ a.length ≤ B ^ (b.length - 1) := Nat.pow_le_pow_right (by omega) (by omega)
  omega
theorem rcmp_ok {B : Nat} (hB : 1 < B) {a b : List Int} (ha : okl B a) (hb : okl B b) (ta : top a) (tb : top b) (hl : a.length < 100000000000000) (hl2 : b.length < 100000000000000) {k : Nat} (hk : a.length + 2 ≤ k) : numeralref02_Compare.f k a b = some (cmpn (nv B a) (nv B b)) := by
  unfold numeralref02_Compare.f
  by_cases h : a.length = b.length
  · rw [if_pos (by omega), wrapi_id (n := (a.length : Int) - 1) (by omega) (by omega), rcmp_l0 (by omega) ha hb h (by omega) a.length k (Nat.le_refl _) (by omega), List.take_length, List.take_of_length_le (by omega)]
  · rw [if_neg (by omega)]
    by_cases h2 : a.length < b.length
    · rw [if_pos (by omega)]; unfold cmpn; rw [if_pos (len_lt hB ha hb tb h2)]
    · have := len_lt hB hb ha ta (by omega)
      rw [if_neg (by omega)]; unfold cmpn; rw [if_neg (by omega), if_pos this]
end Go.Proofs.YtbjmfocjigikgaaDoor.XrH
end
section
namespace Go.Proofs.YtbjmfocjigikgaaDoor.XrH
open Go.RowKit Go.Proofs.YtbjmfocjigikgaaDoor.Xr Go.Proofs.YtbjmfocjigikgaaDoor.A Go.Proofs.YtbjmfocjigikgaaDoor.L Go.Proofs.YtbjmfocjigikgaaDoorW.PrintWords Go.Proofs.YtbjmfocjigikgaaDoorW.PrintLast Go.Proofs.YtbjmfocjigikgaaDoorW.PrintMore
set_option linter.unusedSimpArgs false
set_option linter.unusedVariables false
/-! differences -/
theorem borrow_eq {B x y c : Nat} (hx : x < B) (hy : y < B) (hc : c ≤ 1) : (x + B - y - c) % B + y + c = x + B * (if x < y + c then 1 else 0) := by
  by_cases h : x < y + c
  · rw [if_pos h]
    rcases Nat.lt_or_ge (x + B) (y + c) with h2 | h2
    · omega
    · rw [Nat.mod_eq_of_lt (by omega)]; omega
  · rw [if_neg h, show x + B - y - c = (x - y - c) + B by omega, Nat.add_mod_right, Nat.mod_eq_of_lt (by omega)]; omega
theorem minus_l0 {a b : List Int} (ha : okl B32 a) (hb : okl B32 b) (hl : a.length ≤ 1000) (hba : b.length ≤ a.length) (hge : nv B32 b ≤ nv B32 a) : ∀ (n k i c : Nat) (acc : List Int), i + n = a.length → n + 1400 ≤ k → okl B32 acc → acc.length = i → c ≤ 1 →
    nv B32 acc + nv B32 (b.take i) = nv B32 (a.take i) + B32 ^ i * c →
    ∃ p, numeralref02_Minus.l0 k a b acc (c : Int) (i : Int) = some p ∧ okl B32 p ∧ top p ∧ nv B32 p + nv B32 b = nv B32 a ∧ p.length ≤ 1000 := by
  intro n
  induction n with
  | zero =>
    intro k i c acc hi hk ho hlen hc hv
    obtain ⟨k, rfl⟩ : ∃ q, k = q + 1 := ⟨k - 1, by omega⟩
    obtain ⟨m, m1, m2, m3, m4⟩ := rtrim_ok (l := acc) (by omega) (k := k) (by omega)
    refine ⟨_, ?_, okl_take ho m, m3, ?_, by rw [List.length_take]; omega⟩
    · rw [numeralref02_Minus.l0, if_neg (by omega), bind_eqh m2]
    · have hlt := nv_lt b32_pos ho
      rw [List.take_of_length_le (by omega), List.take_of_length_le (by omega)] at hv
      rw [hlen] at hlt
      rw [m4]
      rcases (by omega : c = 0 ∨ c = 1) with rfl | rfl
      · omega
      · rw [Nat.mul_one] at hv; omega
  | succ n ih =>
    intro k i c acc hi hk ho hlen hc hv
    obtain ⟨k, rfl⟩ : ∃ q, k = q + 1 := ⟨k - 1, by omega⟩
    obtain ⟨x, hx, hxB, hxn⟩ := dig_at ha b32_pos i
    obtain ⟨y, hy, hyB, hyn⟩ := dig_at hb b32_pos i
    have hxB' : x < 4294967296 := hxB
    have hyB' : y < 4294967296 := hyB
    have hc' : (if x < y + c then 1 else 0) ≤ 1 := by split <;> omega
    have hoc : okl B32 (acc ++ [(((x + B32 - y - c) % B32 : Nat) : Int)]) := by
      rw [okl_append]
      have := Nat.mod_lt (x + B32 - y - c) b32_pos
      exact ⟨ho, okl_cons.2 ⟨⟨by omega, by omega⟩, okl_nil _⟩⟩
    have hstep := sub_step (P := B32 ^ i) (B := B32) (x := x) (y := y) (d := (x + B32 - y - c) % B32) (w' := (if x < y + c then 1 else 0)) hv (borrow_eq hxB hyB hc)
    have hv2 : nv B32 (acc ++ [(((x + B32 - y - c) % B32 : Nat) : Int)]) + nv B32 (b.take (i + 1)) = nv B32 (a.take (i + 1)) + B32 ^ (i + 1) * (if x < y + c then 1 else 0) := by
      rw [nv_snoc, nv_take_step, nv_take_step, hxn, hyn, Int.toNat_natCast, Nat.pow_succ, hlen]
      omega
    obtain ⟨p, p1, p2⟩ := ih k (i + 1) (if x < y + c then 1 else 0) _ (by omega) (by omega) hoc (by simp [hlen]) hc' hv2
    refine ⟨p, ?_, p2⟩
    have hy0 : ¬ i < b.length → y = 0 := by
      intro h
      have : b.getD i 0 = 0 := by simp [List.getD, h]
      rw [this] at hyn; exact hyn.symm
    have e1 : ¬ x < y + c → ((x : Int) - (c : Int) - (y : Int)) % 4294967296 = (((x + B32 - y - c) % B32 : Nat) : Int) := by intro h; unfold B32; omega
    have e2 : x < y + c → ((x : Int) - (c : Int) - (y : Int) + 4294967296) % 4294967296 = (((x + B32 - y - c) % B32 : Nat) : Int) := by intro h; unfold B32; omega
    rw [numeralref02_Minus.l0, if_pos (by omega), if_pos (by omega), hx, hy, wrapi_id (n := (x : Int)) (by omega) (by omega), wrapi_id (n := (y : Int)) (by omega) (by omega), wrapi_id (n := (x : Int) - (c : Int)) (by omega) (by omega), wrapi_id (n := (x : Int) - (c : Int) - (y : Int)) (by omega) (by omega), wrapi_id (n := (x : Int) - (c : Int) - (y : Int) + 4294967296) (by omega) (by omega), wrapi_id (n := (x : Int) - (c : Int) + 4294967296) (by omega) (by omega), wrapi_id (n := (i : Int) + 1) (by omega) (by omega), show (i : Int) + 1 = ((i + 1 : Nat) : Int) by omega]
    by_cases hb2 : i < b.length
    · rw [if_pos (by omega)]
      by_cases h : x < y + c
      · rw [if_pos (by omega), if_pos (by omega), e2 h]
        rw [if_pos h] at p1; exact p1
      · rw [if_neg (by omega), if_pos (by omega), e1 h]
        rw [if_neg h] at p1; exact p1
    · have hy1 := hy0 hb2
      subst hy1
      rw [if_neg (by omega)]
      by_cases h : x < 0 + c
      · have h2 := e2 h
        rw [if_pos (by omega), if_pos (by omega), show (x : Int) - (c : Int) + 4294967296 = (x : Int) - (c : Int) - ((0 : Nat) : Int) + 4294967296 by omega, h2]
        rw [if_pos h] at p1; exact p1
      · have h2 := e1 h
        rw [if_neg (by omega), if_pos (by omega), show (x : Int) - (c : Int) = (x : Int) - (c : Int) - ((0 : Nat) : Int) by omega, h2]
        rw [if_neg h] at p1; exact p1
theorem cmpn_neg (a b : Nat) : cmpn a b < 0 ↔ a < b := by
  unfold cmpn
  by_cases h : a < b
  · rw [if_pos h]; simp [h]
  · rw [if_neg h]
    by_cases h2 : a > b
    · rw [if_pos h2]; simp [h]
    · rw [if_neg h2]; simp [h]
theorem len_le_of_nv {B : Nat} (hB : 1 < B) {a b : List Int} (ha : okl B a) (hb : okl B b) (tb : top b) (h : nv B b ≤ nv B a) : b.length ≤ a.length := by
  rcases Nat.lt_or_ge a.length b.length with hlt | hge
  · have := len_lt hB ha hb tb hlt; omega
  · exact hge
/-! the law's own -/
end Go.Proofs.YtbjmfocjigikgaaDoor.XrH
end
section
namespace Go.Proofs.YtbjmfocjigikgaaDoor.XrH
open Go.RowKit Go.Proofs.YtbjmfocjigikgaaDoor.Xr Go.Proofs.YtbjmfocjigikgaaDoor.A Go.Proofs.YtbjmfocjigikgaaDoor.L Go.Proofs.YtbjmfocjigikgaaDoorW.PrintWords Go.Proofs.YtbjmfocjigikgaaDoorW.PrintLast Go.Proofs.YtbjmfocjigikgaaDoorW.PrintMore
set_option linter.unusedSimpArgs false
set_option linter.unusedVariables false
/-- L binary digits has n. -/
def bl (n L : Nat) : Prop := n < 2 ^ L ∧ (0 < n → 0 < L ∧ 2 ^ (L - 1) ≤ n) ∧ (n = 0 → L = 0)
theorem len_l0 : ∀ (n x k : Nat) (c : Int), 0 ≤ c → c + (n : Int) ≤ 1000000 → n ≤ 64 → x < 2 ^ n → n + 1 ≤ k → ∃ l, l ≤ n ∧ numeralref02_Length.l0 k c (x : Int) = some (c + (l : Int)) ∧ x < 2 ^ l ∧ (0 < x → 0 < l ∧ 2 ^ (l - 1) ≤ x) ∧ (x = 0 → l = 0) := by
  intro n
  induction n with
  | zero =>
    intro x k c h0 h1 hn hx hk
    obtain ⟨k, rfl⟩ : ∃ q, k = q + 1 := ⟨k - 1, by omega⟩
    have hx0 : x = 0 := by rw [Nat.pow_zero] at hx; omega
    subst hx0
    refine ⟨0, Nat.le_refl _, ?_, by decide, fun h => by omega, fun _ => rfl⟩
    rw [numeralref02_Length.l0, if_neg (by omega)]; simp
  | succ n ih =>
    intro x k c h0 h1 hn hx hk
    obtain ⟨k, rfl⟩ : ∃ q, k = q + 1 := ⟨k - 1, by omega⟩
    by_cases hx0 : x = 0
    · subst hx0
      refine ⟨0, by omega, ?_, by decide, fun h => by omega, fun _ => rfl⟩
      rw [numeralref02_Length.l0, if_neg (by omega)]; simp
    · rw [Nat.pow_succ] at hx
      obtain ⟨l, l1, l2, l3, l4, l5⟩ := ih (x / 2) k (c + 1) (by omega) (by omega) (by omega) (by omega) (by omega)
      refine ⟨l + 1, by omega, ?_, by rw [Nat.pow_succ]; omega, fun _ => ⟨by omega, ?_⟩, fun h => absurd h hx0⟩
      · rw [numeralref02_Length.l0, if_pos (by omega), wrapi_id (n := c + 1) (by omega) (by omega), show (x : Int) / 2 = ((x / 2 : Nat) : Int) by omega, l2]
        congr 1; omega
      · show 2 ^ l ≤ x
        by_cases hh : x / 2 = 0
        · have := l5 hh; subst this; omega
        · obtain ⟨m1, m2⟩ := l4 (by omega)
          have : 2 ^ l = 2 ^ (l - 1) * 2 := by rw [← Nat.pow_succ]; congr 1; omega
          omega
theorem len_ok {p : List Int} (ho : okl B32 p) (ht : top p) (hl : p.length ≤ 1000) {k : Nat} (hk : 100 ≤ k) : ∃ L : Nat, numeralref02_Length.f k p = some (L : Int) ∧ bl (nv B32 p) L ∧ L ≤ 32 * p.length := by
  unfold numeralref02_Length.f
  by_cases h0 : p.length = 0
  · have : p = [] := List.length_eq_zero_iff.1 h0
    subst this
    exact ⟨0, if_pos (by rfl), ⟨by simp [nv], fun h => by simp [nv] at h, fun _ => rfl⟩, by simp⟩
  · obtain ⟨r1, r2, r3⟩ := rd_last (l := p) (by omega) (by omega)
    obtain ⟨m, hm⟩ : ∃ m, p.length = m + 1 := ⟨p.length - 1, by omega⟩
    obtain ⟨x, hx, hxB, hxn⟩ := dig_at ho b32_pos m
    have htop := (top_iff p).1 ht
    have hx0 : 0 < x := by
      rw [show p.length - 1 = m by omega, ← rd_nat, hx] at htop
      omega
    obtain ⟨l, l1, l2, l3, l4, l5⟩ := len_l0 32 x k ((32 * m : Nat) : Int) (by omega) (by omega) (by omega) hxB (by omega)
    obtain ⟨m1, m2⟩ := l4 hx0
    have hnv : nv B32 p = nv B32 (p.take m) + B32 ^ m * x := by
      have := nv_take_step B32 p m
      rw [List.take_of_length_le (by omega), hxn] at this
      exact this
    have hlow := nv_lt b32_pos (okl_take ho m)
    rw [List.length_take, Nat.min_eq_left (by omega)] at hlow
    have hB : B32 ^ m = 2 ^ (32 * m) := by rw [Nat.pow_mul]; rfl
    rw [hB] at hnv hlow
    refine ⟨32 * m + l, ?_, ⟨?_, fun _ => ⟨by omega, ?_⟩, fun h => ?_⟩, by omega⟩
    · rw [if_neg (by omega), if_pos r1, if_pos r2, r3, ← rd_nat, show p.length - 1 = m by omega, hx, wrapi_id (n := (p.length : Int) - 1) (by omega) (by omega), wrapi_id (n := 32 * ((p.length : Int) - 1)) (by omega) (by omega), show 32 * ((p.length : Int) - 1) = ((32 * m : Nat) : Int) by omega, l2]
      rfl
    · rw [hnv, Nat.pow_add]
      have := Nat.mul_le_mul_left (2 ^ (32 * m)) (show x + 1 ≤ 2 ^ l from l3)
      rw [Nat.mul_add, Nat.mul_one] at this
      omega
    · rw [hnv, show 32 * m + l - 1 = 32 * m + (l - 1) by omega, Nat.pow_add]
      have := Nat.mul_le_mul_left (2 ^ (32 * m)) m2
      omega
    · rw [hnv] at h
      have := Nat.mul_pos (Nat.two_pow_pos (32 * m)) hx0
      omega
theorem tmod32 (n : Nat) : Int.tmod (n : Int) 32 = ((n % 32 : Nat) : Int) := (Int.ofNat_tmod n 32).symm
theorem tdiv32 (n : Nat) : Int.tdiv (n : Int) 32 = ((n / 32 : Nat) : Int) := (Int.ofNat_tdiv n 32).symm
theorem up_l0 {p : List Int} (ho : okl B32 p) (hl : p.length ≤ 1000) {n : Nat} (hn : n ≤ 100000) : ∀ (m k i c : Nat) (acc : List Int), i + m = p.length → m + 6000 ≤ k → okl B32 acc → acc.length = n / 32 + i → c < 2 ^ (n % 32) → nv B32 acc + B32 ^ acc.length * c = 2 ^ n * nv B32 (p.take i) →
    ∃ q, numeralref02_Up.l0 k p (n : Int) acc (c : Int) (i : Int) = some q ∧ okl B32 q ∧ top q ∧ nv B32 q = 2 ^ n * nv B32 p ∧ q.length ≤ n / 32 + p.length + 1 := by
  intro m
  induction m with
  | zero =>
    intro k i c acc hi hk ha hlen hc hv
    obtain ⟨k, rfl⟩ : ∃ q, k = q + 1 := ⟨k - 1, by omega⟩
    have hr : 2 ^ (n % 32) ≤ 2 ^ 31 := Nat.pow_le_pow_right (by decide) (by omega)
    have e1 : (c : Int) % 4294967296 = (c : Int) := by omega
    have hoc : okl B32 (acc ++ [(c : Int)]) := by
      rw [okl_append]
      refine ⟨ha, okl_cons.2 ⟨⟨by omega, ?_⟩, okl_nil _⟩⟩
      show _ < ((4294967296 : Nat) : Int); omega
    obtain ⟨t, m1, m2, m3, m4⟩ := rtrim_ok (l := acc ++ [(c : Int)]) (by simp; omega) (k := k) (by simp; omega)
    refine ⟨_, ?_, okl_take hoc t, m3, ?_, by rw [List.length_take]; simp; omega⟩
    · rw [numeralref02_Up.l0, if_neg (by omega), if_pos (by omega), e1, bind_eqh m2]
    · rw [m4, nv_snoc, Int.toNat_natCast, hv, List.take_of_length_le (by omega)]
  | succ m ih =>
    intro k i c acc hi hk ha hlen hc hv
    obtain ⟨k, rfl⟩ : ∃ q, k = q + 1 := ⟨k - 1, by omega⟩
    obtain ⟨x, hx, hxB, hxn⟩ := dig_at ho b32_pos i
    have hxB' : x < 4294967296 := hxB
    have hr : 2 ^ (n % 32) ≤ 2 ^ 31 := Nat.pow_le_pow_right (by decide) (by omega)
    have hpos := Nat.two_pow_pos (n % 32)
    have hfit : x * 2 ^ (n % 32) + c < 2 ^ (n % 32) * 4294967296 := by
      have := Nat.mul_le_mul_right (2 ^ (n % 32)) (show x + 1 ≤ 4294967296 from hxB')
      rw [Nat.add_mul, Nat.one_mul, Nat.mul_comm 4294967296] at this
      omega
    have h64 : x * 2 ^ (n % 32) + c < 18446744073709551616 := by
      have := Nat.mul_le_mul_right 4294967296 hr
      omega
    generalize hv0 : x * 2 ^ (n % 32) + c = v at *
    have hc' : v / B32 < 2 ^ (n % 32) := (Nat.div_lt_iff_lt_mul b32_pos).2 hfit
    have hoc : okl B32 (acc ++ [((v % B32 : Nat) : Int)]) := by
      rw [okl_append]
      have := Nat.mod_lt v b32_pos
      exact ⟨ha, okl_cons.2 ⟨⟨by omega, by omega⟩, okl_nil _⟩⟩
    have hv2 : nv B32 (acc ++ [((v % B32 : Nat) : Int)]) + B32 ^ (acc ++ [((v % B32 : Nat) : Int)]).length * (v / B32) = 2 ^ n * nv B32 (p.take (i + 1)) := by
      have hp : B32 ^ acc.length * 2 ^ (n % 32) = 2 ^ n * B32 ^ i := by
        rw [hlen]
        have e : B32 = 2 ^ 32 := rfl
        rw [e, ← Nat.pow_mul, ← Nat.pow_mul, ← Nat.pow_add, ← Nat.pow_add]
        congr 1
        have := Nat.div_add_mod n 32
        omega
      have hs := add_step (P := B32 ^ acc.length) (B := B32) (x := x * 2 ^ (n % 32)) (y := 0) (d := v % B32) (c' := v / B32) hv (by rw [Nat.mod_add_div, Nat.add_zero]; exact hv0.symm)
      have hq : B32 ^ acc.length * (x * 2 ^ (n % 32)) = 2 ^ n * (B32 ^ i * x) := by
        rw [Nat.mul_comm x, ← Nat.mul_assoc, hp, Nat.mul_assoc]
      rw [nv_snoc, Int.toNat_natCast, List.length_append, List.length_singleton, Nat.pow_succ, hs, hq, nv_take_step, hxn, Nat.mul_add, Nat.mul_zero, Nat.add_zero]
    obtain ⟨q, q1, q2⟩ := ih k (i + 1) (v / B32) _ (by omega) (by omega) hoc (by simp [hlen]; omega) hc' hv2
    refine ⟨q, ?_, q2⟩
    have e1 : (v : Int) % 4294967296 = ((v % B32 : Nat) : Int) := by unfold B32; omega
    have e2 : (v : Int) / 4294967296 = ((v / B32 : Nat) : Int) := by unfold B32; omega
    rw [numeralref02_Up.l0, if_pos (by omega), if_pos (by omega), tmod32, wrapu_id (n := ((n % 32 : Nat) : Int)) (by omega) (by omega), if_pos (by omega), if_pos (by omega), hx, wrapu_id (n := (x : Int)) (by omega) (by omega), shl_fit x (n % 32) (by omega) (by omega), or_disj' x c (n % 32) hc (by omega), hv0, e1, e2, wrapi_id (n := (i : Int) + 1) (by omega) (by omega)]
    exact q1
theorem up_ok {p : List Int} (ho : okl B32 p) (hl : p.length ≤ 1000) {n : Nat} (hn : n ≤ 100000) {k : Nat} (hk : 8000 ≤ k) :
    ∃ q, numeralref02_Up.f k p (n : Int) = some q ∧ okl B32 q ∧ top q ∧ nv B32 q = 2 ^ n * nv B32 p ∧ q.length ≤ n / 32 + p.length + 1 := by
  unfold numeralref02_Up.f
  by_cases h0 : p.length = 0
  · have : p = [] := List.length_eq_zero_iff.1 h0
    subst this
    exact ⟨[], by rw [if_pos (by rfl)], okl_nil _, top_nil, by simp [nv], by simp⟩
  · obtain ⟨q, q1, q2⟩ := up_l0 ho hl hn p.length k 0 0 (List.replicate (n / 32) 0) (by omega) (by omega) (okl_zeros _ _ b32_pos) (by simp) (Nat.two_pow_pos _) (by rw [nv_zeros]; simp [nv])
    refine ⟨q, ?_, q2⟩
    rw [if_neg (by omega), tdiv32, wrapi_id (n := ((n / 32 : Nat) : Int)) (by omega) (by omega), if_pos (by omega), if_pos (by omega), Int.toNat_natCast]
    exact q1
theorem down_l0 {p : List Int} (ho : okl B32 p) (hl : p.length ≤ 10000) : ∀ (m k i : Nat) (acc : List Int), i + m = p.length → m + 12000 ≤ k → okl B32 acc → acc.length = i → 2 * nv B32 acc + nv B32 p % 2 = nv B32 (p.take i) + B32 ^ i * ((p.getD i 0).toNat % 2) →
    ∃ q, numeralref02_Down.l0 k p 1 acc (i : Int) = some q ∧ okl B32 q ∧ top q ∧ nv B32 q = nv B32 p / 2 ∧ q.length ≤ p.length := by
  intro m
  induction m with
  | zero =>
    intro k i acc hi hk ha hlen hv
    obtain ⟨k, rfl⟩ : ∃ q, k = q + 1 := ⟨k - 1, by omega⟩
    obtain ⟨t, m1, m2, m3, m4⟩ := rtrim_ok (l := acc) (by omega) (k := k) (by omega)
    refine ⟨_, ?_, okl_take ha t, m3, ?_, by rw [List.length_take]; omega⟩
    · rw [numeralref02_Down.l0, if_neg (by omega), bind_eqh m2]
    · have h00 : ¬ i < p.length := by omega
      have h0 : p.getD i 0 = 0 := by simp [List.getD, h00]
      rw [h0, List.take_of_length_le (by omega)] at hv
      rw [m4]
      have : (0 : Int).toNat % 2 = 0 := rfl
      rw [this, Nat.mul_zero] at hv
      omega
  | succ m ih =>
    intro k i acc hi hk ha hlen hv
    obtain ⟨k, rfl⟩ : ∃ q, k = q + 1 := ⟨k - 1, by omega⟩
    obtain ⟨x, hx, hxB, hxn⟩ := dig_at ho b32_pos i
    obtain ⟨y, hy, hyB, hyn⟩ := dig_at ho b32_pos (i + 1)
    have hxB' : x < 4294967296 := hxB
    have hyB' : y < 4294967296 := hyB
    have hd : (x + y * 4294967296) / 2 % 4294967296 = x / 2 + y % 2 * 2147483648 := by omega
    have hoc : okl B32 (acc ++ [((x / 2 + y % 2 * 2147483648 : Nat) : Int)]) := by
      rw [okl_append]
      refine ⟨ha, okl_cons.2 ⟨⟨by omega, ?_⟩, okl_nil _⟩⟩
      show _ < ((4294967296 : Nat) : Int); omega
    have hv2 : 2 * nv B32 (acc ++ [((x / 2 + y % 2 * 2147483648 : Nat) : Int)]) + nv B32 p % 2 = nv B32 (p.take (i + 1)) + B32 ^ (i + 1) * ((p.getD (i + 1) 0).toNat % 2) := by
      rw [nv_snoc, Int.toNat_natCast, hlen, nv_take_step, hxn, hyn, Nat.pow_succ]
      rw [hxn] at hv
      have e : B32 ^ i * B32 * (y % 2) = B32 ^ i * (y % 2 * 4294967296) := by rw [Nat.mul_assoc, Nat.mul_comm B32]; rfl
      have e2 : B32 ^ i * x = B32 ^ i * (x % 2) + 2 * (B32 ^ i * (x / 2)) := by
        rw [← Nat.mul_assoc, Nat.mul_comm 2, Nat.mul_assoc, ← Nat.mul_add]; congr 1; omega
      have e3 : 2 * (B32 ^ i * (x / 2 + y % 2 * 2147483648)) = 2 * (B32 ^ i * (x / 2)) + B32 ^ i * (y % 2 * 4294967296) := by
        have e4 : 2 * (B32 ^ i * (y % 2 * 2147483648)) = B32 ^ i * (y % 2 * 4294967296) := by
          rw [← Nat.mul_assoc, Nat.mul_comm 2, Nat.mul_assoc]; congr 1; omega
        rw [Nat.mul_add, Nat.mul_add, e4]
      omega
    obtain ⟨q, q1, q2⟩ := ih k (i + 1) _ (by omega) (by omega) hoc (by simp [hlen]) hv2
    refine ⟨q, ?_, q2⟩
    have t1 : Int.tmod 1 32 = ((1 : Nat) : Int) := rfl
    have hy0 : ¬ i + 1 < p.length → y = 0 := by
      intro h
      have : p.getD (i + 1) 0 = 0 := by simp [List.getD, h]
      rw [this] at hyn; exact hyn.symm
    rw [numeralref02_Down.l0, if_pos (by omega), if_pos (by omega), wrapi_id (n := (i : Int) + 1) (by omega) (by omega), show (i : Int) + 1 = ((i + 1 : Nat) : Int) by omega, hx, hy, t1, wrapu_id (n := ((1 : Nat) : Int)) (by omega) (by omega), wrapu_id (n := (x : Int)) (by omega) (by omega), wrapu_id (n := (y : Int)) (by omega) (by omega), wrapu_id (n := (y : Int) * 4294967296) (by omega) (by omega), show (y : Int) * 4294967296 = ((y * 2 ^ 32 : Nat) : Int) by omega, or_disj' y x 32 (by omega) (by omega), shr_u _ 1 (by omega), shr_u _ 1 (by omega)]
    by_cases h : i + 1 < p.length
    · rw [if_pos (by omega), if_pos (by omega), if_pos (by omega), if_pos (by omega), show (((y * 2 ^ 32 + x) / 2 ^ 1 : Nat) : Int) % 4294967296 = ((x / 2 + y % 2 * 2147483648 : Nat) : Int) by omega]
      exact q1
    · have := hy0 h
      subst this
      rw [if_neg (by omega), if_pos (by omega), if_pos (by omega), show ((x / 2 ^ 1 : Nat) : Int) % 4294967296 = ((x / 2 + 0 % 2 * 2147483648 : Nat) : Int) by omega]
      exact q1
theorem down_ok {p : List Int} (ho : okl B32 p) (hl : p.length ≤ 10000) {k : Nat} (hk : 30000 ≤ k) :
    ∃ q, numeralref02_Down.f k p 1 = some q ∧ okl B32 q ∧ top q ∧ nv B32 q = nv B32 p / 2 ∧ q.length ≤ p.length := by
  unfold numeralref02_Down.f
  rw [wrapi_id (n := 32 * (p.length : Int)) (by omega) (by omega)]
  by_cases h0 : p.length = 0
  · have : p = [] := List.length_eq_zero_iff.1 h0
    subst this
    exact ⟨[], by rw [if_pos (by simp)], okl_nil _, top_nil, rfl, by simp⟩
  · have hB2 : ∀ x y : Nat, (x + B32 * y) % 2 = x % 2 := by intro x y; unfold B32; omega
    have hhead : nv B32 p % 2 = (p.getD 0 0).toNat % 2 := by
      cases p with
      | nil => simp at h0
      | cons z r => rw [nv, hB2]; rfl
    obtain ⟨q, q1, q2⟩ := down_l0 ho hl p.length k 0 [] (by omega) (by omega) (okl_nil _) rfl (by rw [hhead]; simp [nv])
    refine ⟨q, ?_, q2⟩
    have t0 : Int.tdiv 1 32 = 0 := rfl
    rw [if_neg (by omega), t0, wrapi_id (n := (0 : Int)) (by omega) (by omega)]
    exact q1
theorem minus_ok {a b : List Int} (ha : okl B32 a) (hb : okl B32 b) (hl : a.length ≤ 1000) (tb : top b) (hge : nv B32 b ≤ nv B32 a) {k : Nat} (hk : 3000 ≤ k) :
    ∃ p, numeralref02_Minus.f k a b = some p ∧ okl B32 p ∧ top p ∧ nv B32 p + nv B32 b = nv B32 a ∧ p.length ≤ 1000 :=
  minus_l0 ha hb hl (len_le_of_nv b32_one ha hb tb hge) hge a.length k 0 0 [] (by omega) (by omega) (okl_nil _) rfl (by omega) (by simp [nv])
end Go.Proofs.YtbjmfocjigikgaaDoor.XrH
end
section
namespace Go.Proofs.YtbjmfocjigikgaaDoor.XrH
open Go.RowKit Go.Proofs.YtbjmfocjigikgaaDoor.Xr Go.Proofs.YtbjmfocjigikgaaDoor.A Go.Proofs.YtbjmfocjigikgaaDoor.L Go.Proofs.YtbjmfocjigikgaaDoorW.PrintWords Go.Proofs.YtbjmfocjigikgaaDoorW.PrintLast Go.Proofs.YtbjmfocjigikgaaDoorW.PrintMore
set_option linter.unusedSimpArgs false
set_option linter.unusedVariables false
theorem or_u32 (a b : Nat) (ha : a < 4294967296) (hb : b < 4294967296) : Go.bits .or .u32 (a : Int) (b : Int) = ((a ||| b : Nat) : Int) := by
  have hx : a ||| b < 2 ^ 32 := Nat.or_lt_two_pow (by omega) (by omega)
  have h1 : (BitVec.ofInt 32 (a : Int)).toNat = a := by
    rw [BitVec.ofInt_natCast, BitVec.toNat_ofNat]; exact Nat.mod_eq_of_lt (by omega)
  have h2 : (BitVec.ofInt 32 (b : Int)).toNat = b := by
    rw [BitVec.ofInt_natCast, BitVec.toNat_ofNat]; exact Nat.mod_eq_of_lt (by omega)
  show IntKind.u32.wrap ((BitVec.ofInt 32 (a : Int) ||| BitVec.ofInt 32 (b : Int)).toNat : Int) = _
  rw [BitVec.toNat_or, h1, h2]
  simp [IntKind.wrap, IntKind.signed, IntKind.bits]
  omega
theorem shl1_u32 (r : Nat) (h : r < 32) : shl .u32 1 (r : Int) = ((2 ^ r : Nat) : Int) := by
  have h1 : 2 ^ r < 2 ^ 32 := Nat.pow_lt_pow_right (by decide) h
  unfold shl
  have e : min (r : Int).toNat IntKind.u32.bits = r := by simp [IntKind.bits]; omega
  have e2 : (1 : Int) * 2 ^ r = ((2 ^ r : Nat) : Int) := by rw [Int.one_mul, Int.natCast_pow]; rfl
  rw [e, e2]
  generalize 2 ^ r = z at *
  have h3 : z < 4294967296 := h1
  simp [IntKind.wrap, IntKind.signed, IntKind.bits]
  omega
theorem dig_val {B : Nat} (hB : 0 < B) {l : List Int} (h : okl B l) (j : Nat) : (l.getD j 0).toNat = nv B l / B ^ j % B := by
  have hp : 0 < B ^ j := Nat.pow_pos hB
  rcases Nat.lt_or_ge j l.length with hj | hj
  · have h1 := nv_take_drop B l j (by omega)
    have h2 := nv_lt hB (okl_take h j)
    rw [List.length_take, Nat.min_eq_left (by omega)] at h2
    rw [h1, Nat.add_mul_div_left _ _ hp, Nat.div_eq_of_lt h2, Nat.zero_add, drop_get hj, nv, Nat.add_mul_mod_self_left]
    have := okl_get h j hB
    rw [Nat.mod_eq_of_lt (by omega)]
  · have h0 : l.getD j 0 = 0 := by simp [List.getD, hj]
    have h2 := nv_lt hB h
    have h3 : B ^ l.length ≤ B ^ j := Nat.pow_le_pow_right hB hj
    rw [h0, Nat.div_eq_of_lt (by omega), Nat.zero_mod]; rfl
/-- The bit i set, where the lowest bits up to it are 0. -/
theorem set_bit {q : List Int} (ho : okl B32 q) {i : Nat} (hi : i / 32 < q.length) (hz : nv B32 q % 2 ^ (i + 1) = 0) :
    ∃ w : Nat, rd q ((i / 32 : Nat) : Int) = (w : Int) ∧ Go.bits .or .u32 (w : Int) ((2 ^ (i % 32) : Nat) : Int) = ((w + 2 ^ (i % 32) : Nat) : Int) ∧ okl B32 (q.set (i / 32) ((w + 2 ^ (i % 32) : Nat) : Int)) ∧ nv B32 (q.set (i / 32) ((w + 2 ^ (i % 32) : Nat) : Int)) = nv B32 q + 2 ^ i := by
  obtain ⟨w, hw, hwB, hwn⟩ := dig_at ho b32_pos (i / 32)
  have hwB' : w < 4294967296 := hwB
  have hr : i % 32 + 1 ≤ 32 := by omega
  have e32 : B32 = 2 ^ 32 := rfl
  have hpow : B32 ^ (i / 32) = 2 ^ (32 * (i / 32)) := by rw [e32, ← Nat.pow_mul]
  have hsplit : 2 ^ (i + 1) = 2 ^ (i % 32 + 1) * 2 ^ (32 * (i / 32)) := by rw [← Nat.pow_add]; congr 1; omega
  obtain ⟨t, ht⟩ : ∃ t, nv B32 q = 2 ^ (i + 1) * t := ⟨nv B32 q / 2 ^ (i + 1), by have := Nat.div_add_mod (nv B32 q) (2 ^ (i + 1)); omega⟩
  have hval := dig_val b32_pos ho (i / 32)
  rw [hwn, ht, hpow, hsplit, Nat.mul_right_comm, Nat.mul_div_cancel _ (Nat.two_pow_pos _)] at hval
  have hw0 : w % 2 ^ (i % 32 + 1) = 0 := by
    rw [hval, e32, Nat.mod_mod_of_dvd _ (Nat.pow_dvd_pow 2 hr), Nat.mul_mod_right]
  obtain ⟨s, hs⟩ : ∃ s, w = 2 ^ (i % 32 + 1) * s := ⟨w / 2 ^ (i % 32 + 1), by have := Nat.div_add_mod w (2 ^ (i % 32 + 1)); omega⟩
  have hlt : 2 ^ (i % 32) < 2 ^ (i % 32 + 1) := Nat.pow_lt_pow_right (by decide) (by omega)
  have hor : w ||| 2 ^ (i % 32) = w + 2 ^ (i % 32) := by rw [hs, Nat.two_pow_add_eq_or_of_lt hlt]
  have h32 : 2 ^ (i % 32) < 4294967296 := by
    have : 2 ^ (i % 32) ≤ 2 ^ 31 := Nat.pow_le_pow_right (by decide) (by omega)
    omega
  have hfit : w + 2 ^ (i % 32) < 4294967296 := by
    rw [← hor]; exact Nat.or_lt_two_pow (n := 32) hwB' h32
  refine ⟨w, hw, by rw [or_u32 w _ hwB' h32, hor], okl_set ho _ ⟨by omega, by show _ < ((4294967296 : Nat) : Int); omega⟩, ?_⟩
  have h1 := nv_set B32 (l := q) (i := i / 32) ((w + 2 ^ (i % 32) : Nat) : Int) hi
  rw [hwn, Int.toNat_natCast, Nat.mul_add] at h1
  have h2 : B32 ^ (i / 32) * 2 ^ (i % 32) = 2 ^ i := by rw [hpow, ← Nat.pow_add]; congr 1; omega
  omega
theorem cmpn_ge (a b : Nat) : cmpn a b ≥ 0 ↔ b ≤ a := by
  have := cmpn_neg a b
  omega
theorem over_l0 {a b : List Int} (ha : okl B32 a) (la : a.length ≤ 1000) (hb : 0 < nv B32 b) : ∀ (j k : Nat) (q d rest : List Int), j ≤ 40000 → j + 40000 ≤ k → okl B32 q → (∀ i, i < j → i / 32 < q.length) → q.length ≤ 5000 → nv B32 q % 2 ^ j = 0 → okl B32 d → top d → d.length ≤ 5000 → (∀ i, j = i + 1 → nv B32 d = nv B32 b * 2 ^ i) →
    okl B32 rest → top rest → nv B32 rest < nv B32 b * 2 ^ j → nv B32 q * nv B32 b + nv B32 rest = nv B32 a →
    ∃ t r, numeralref02_Over.l0 k q d rest ((j : Int) - 1) = some (t, r) ∧ okl B32 t ∧ top t ∧ okl B32 r ∧ top r ∧ nv B32 t * nv B32 b + nv B32 r = nv B32 a ∧ nv B32 r < nv B32 b ∧ t.length ≤ 5000
  | 0, k + 1, q, d, rest, hj, hk, hq, hql, hqn, hqz, hd, htd, hdl, hdv, hr, htr, hrb, hv => by
    obtain ⟨m, m1, m2, m3, m4⟩ := rtrim_ok (l := q) (by omega) (k := k) (by omega)
    refine ⟨q.take m, rest, ?_, okl_take hq m, m3, hr, htr, by rw [m4]; exact hv, by rw [Nat.pow_zero, Nat.mul_one] at hrb; exact hrb, by rw [List.length_take]; omega⟩
    rw [numeralref02_Over.l0, if_neg (by omega), bind_eqh m2]
  | i + 1, k + 1, q, d, rest, hj, hk, hq, hql, hqn, hqz, hd, htd, hdl, hdv, hr, htr, hrb, hv => by
    have hdv' := hdv i rfl
    have hlr := len_le_of_nv b32_one ha hr htr (by omega)
    have hcmp := rcmp_ok b32_one hr hd htr htd (by omega) (by omega) (k := k) (by omega)
    obtain ⟨e, e1, e2, e3, e4, e5⟩ := down_ok hd (by omega) (k := k) (by omega)
    have hev : ∀ i', i = i' + 1 → nv B32 e = nv B32 b * 2 ^ i' := by
      rintro i' rfl
      rw [e4, hdv', Nat.pow_succ, ← Nat.mul_assoc, Nat.mul_div_cancel _ (by decide)]
    have hqz' : nv B32 q % 2 ^ i = 0 := by
      have h1 : 2 ^ i ∣ 2 ^ (i + 1) := Nat.pow_dvd_pow 2 (by omega)
      rw [← Nat.mod_mod_of_dvd _ h1, hqz, Nat.zero_mod]
    rw [Nat.pow_succ, ← Nat.mul_assoc] at hrb
    rw [numeralref02_Over.l0, show ((i + 1 : Nat) : Int) - 1 = (i : Int) by omega, if_pos (by omega), bind_eqh hcmp, tdiv32, tmod32, wrapi_id (n := ((i / 32 : Nat) : Int)) (by omega) (by omega), wrapu_id (n := ((i % 32 : Nat) : Int)) (by omega) (by omega), wrapi_id (n := (i : Int) - 1) (by omega) (by omega)]
    by_cases hge : nv B32 d ≤ nv B32 rest
    · obtain ⟨p, p1, p2, p3, p4, p5⟩ := minus_ok hr hd (by omega) htd hge (k := k) (by omega)
      obtain ⟨w, w1, w2, w3, w4⟩ := set_bit hq (hql i (by omega)) hqz
      have hv2 : nv B32 (q.set (i / 32) ((w + 2 ^ (i % 32) : Nat) : Int)) * nv B32 b + nv B32 p = nv B32 a := by
        rw [w4, Nat.add_mul, Nat.mul_comm (2 ^ i)]; omega
      have hz2 : nv B32 (q.set (i / 32) ((w + 2 ^ (i % 32) : Nat) : Int)) % 2 ^ i = 0 := by
        rw [w4, Nat.add_mod_right]; exact hqz'
      obtain ⟨t, r, o1, o2⟩ := over_l0 ha la hb i k _ e p (by omega) (by omega) w3 (fun i' h' => by rw [List.length_set]; exact hql i' (by omega)) (by rw [List.length_set]; exact hqn) hz2 e2 e3 (by omega) hev p2 p3 (by omega) hv2
      refine ⟨t, r, ?_, o2⟩
      have hq1 := hql i (by omega)
      rw [if_pos ((cmpn_ge _ _).2 hge), bind_eqh p1, if_pos (by omega), if_pos (by omega), if_pos (by omega), bind_eqh e1, Int.toNat_natCast, w1, shl1_u32 (i % 32) (by omega), w2]
      exact o1
    · obtain ⟨t, r, o1, o2⟩ := over_l0 ha la hb i k q e rest (by omega) (by omega) hq (fun i' h' => hql i' (by omega)) hqn hqz' e2 e3 (by omega) hev hr htr (by omega) hv
      refine ⟨t, r, ?_, o2⟩
      rw [if_neg (fun h => hge ((cmpn_ge _ _).1 h)), bind_eqh e1]
      exact o1
theorem over_ok {a b : List Int} (ha : okl B32 a) (hb : okl B32 b) (ta : top a) (tb : top b) (la : a.length ≤ 1000) (lb : b.length ≤ 1000) (h0 : 0 < nv B32 b) {k : Nat} (hk : 100000 ≤ k) :
    ∃ t r, numeralref02_Over.f k a b = some (t, r) ∧ okl B32 t ∧ top t ∧ okl B32 r ∧ top r ∧ nv B32 t * nv B32 b + nv B32 r = nv B32 a ∧ nv B32 r < nv B32 b ∧ t.length ≤ 5000 := by
  obtain ⟨La, x1, x2, x3⟩ := len_ok ha ta (by omega) (k := k) (by omega)
  obtain ⟨Lb, y1, y2, y3⟩ := len_ok hb tb (by omega) (k := k) (by omega)
  obtain ⟨z1, z2⟩ := y2.2.1 h0
  unfold numeralref02_Over.f
  rw [bind_eqh x1, bind_eqh y1, wrapi_id (n := (La : Int) - (Lb : Int)) (by omega) (by omega)]
  by_cases hlt : La < Lb
  · rw [if_pos (by omega)]
    have h1 : 2 ^ La ≤ 2 ^ (Lb - 1) := Nat.pow_le_pow_right (by decide) (by omega)
    have h2 := x2.1
    exact ⟨[], a, rfl, okl_nil _, top_nil, ha, ta, by simp [nv], by omega, by simp⟩
  · obtain ⟨n, hn⟩ : ∃ n, La = Lb + n := ⟨La - Lb, by omega⟩
    obtain ⟨d, d1, d2, d3, d4, d5⟩ := up_ok hb (by omega) (n := n) (by omega) (k := k) (by omega)
    have hrb : nv B32 a < nv B32 b * 2 ^ (n + 1) := by
      have h2 := x2.1
      have h3 : 2 ^ La = 2 ^ (Lb - 1) * 2 ^ (n + 1) := by rw [← Nat.pow_add]; congr 1; omega
      have h4 := Nat.mul_le_mul_right (2 ^ (n + 1)) z2
      omega
    obtain ⟨t, r, o1, o2⟩ := over_l0 ha la h0 (n + 1) k (List.replicate (n / 32 + 1) 0) d a (by omega) (by omega) (okl_zeros _ _ b32_pos) (fun i hi => by simp; omega) (by simp; omega) (by rw [nv_zeros, Nat.zero_mod]) d2 d3 (by omega) (fun i hi => by rw [d4, Nat.mul_comm]; congr 2; omega) ha ta hrb (by rw [nv_zeros]; omega)
    refine ⟨t, r, ?_, o2⟩
    rw [if_neg (by omega), show (La : Int) - (Lb : Int) = (n : Int) by omega, tdiv32, wrapi_id (n := ((n / 32 : Nat) : Int)) (by omega) (by omega), wrapi_id (n := ((n / 32 : Nat) : Int) + 1) (by omega) (by omega), if_pos (by omega), if_pos (by omega), bind_eqh d1, show (((n / 32 : Nat) : Int) + 1).toNat = n / 32 + 1 by omega]
    rw [show ((n + 1 : Nat) : Int) - 1 = (n : Int) by omega] at o1
    exact o1
end Go.Proofs.YtbjmfocjigikgaaDoor.XrH
end
section
namespace Go.Proofs.YtbjmfocjigikgaaDoor.XrH
open Go.RowKit Go.Proofs.YtbjmfocjigikgaaDoor.Xr Go.Proofs.YtbjmfocjigikgaaDoor.A Go.Proofs.YtbjmfocjigikgaaDoor.L Go.Proofs.YtbjmfocjigikgaaDoorW.PrintWords Go.Proofs.YtbjmfocjigikgaaDoorW.PrintLast Go.Proofs.YtbjmfocjigikgaaDoorW.PrintMore
set_option linter.unusedSimpArgs false
set_option linter.unusedVariables false
theorem small_ok {d : Nat} (hd : d < B64) {k : Nat} (hk : 10 ≤ k) : ∃ p, numeralref02_Small.f k (d : Int) = some p ∧ okl B32 p ∧ top p ∧ nv B32 p = d ∧ p.length ≤ 2 := by
  have hB : B64 = 18446744073709551616 := rfl
  have hB2 : B32 = 4294967296 := rfl
  obtain ⟨m, m1, m2, m3, m4⟩ := rtrim_ok (l := [(d : Int) % 4294967296, ((d : Int) / 4294967296) % 4294967296]) (by simp) (k := k) (by simp; omega)
  have ho : okl B32 [(d : Int) % 4294967296, ((d : Int) / 4294967296) % 4294967296] := okl_cons.2 ⟨⟨by omega, by omega⟩, okl_cons.2 ⟨⟨by omega, by omega⟩, okl_nil _⟩⟩
  refine ⟨_, ?_, okl_take ho m, m3, ?_, by rw [List.length_take]; simp; omega⟩
  · unfold numeralref02_Small.f; rw [bind_eqh m2]
  · rw [m4]; simp only [nv]; rw [hB2]; omega
/-! ### the quotient by a word -/
/-! ### powers -/
end Go.Proofs.YtbjmfocjigikgaaDoor.XrH
end
section
namespace Go.Proofs.YtbjmfocjigikgaaDoor.XrB
open Go.RowKit Go.Proofs.YtbjmfocjigikgaaDoor.Xr Go.Proofs.YtbjmfocjigikgaaDoor.A Go.Proofs.YtbjmfocjigikgaaDoor.L Go.Proofs.YtbjmfocjigikgaaDoor.Q Go.Proofs.YtbjmfocjigikgaaDoor.XrH Go.Proofs.YtbjmfocjigikgaaDoorW.PrintWords Go.Proofs.YtbjmfocjigikgaaDoorW.PrintLast Go.Proofs.YtbjmfocjigikgaaDoorW.PrintMore
set_option linter.unusedSimpArgs false
set_option linter.unusedVariables false
theorem mx_int (a b : Int) : mx a b = max a b := by unfold mx; split <;> omega
theorem rformat_ok {size F E S : Nat} {L : Int} {I : Nat} (h : IsFmt size F E S L I) : numeralref12_format.f size = some ((F : Int) + 1, L) := by
  rcases h with ⟨rfl, rfl, rfl, rfl, rfl, rfl⟩ | ⟨rfl, rfl, rfl, rfl, rfl, rfl⟩ <;> rfl
theorem rInfv_ok {size F E S : Nat} {L : Int} {I : Nat} (h : IsFmt size F E S L I) : numeralref11_Inf.f size = some (I : Int) := by
  unfold numeralref11_Inf.f; rw [bind_eq (rinf_ok h)]
theorem bit_and1 (z r : Nat) (hz : z < 4294967296) (hr : r < 32) : (Go.bits .and .u32 (shr .u32 (z : Int) (r : Int)) 1 == 1) = decide (z / 2 ^ r % 2 = 1) := by
  have h1 : shr .u32 (z : Int) (r : Int) = ((z / 2 ^ r : Nat) : Int) := by
    unfold shr
    have e : min (r : Int).toNat IntKind.u32.bits = r := by simp [IntKind.bits]; omega
    rw [e, Int.natCast_ediv, Int.natCast_pow]
    rfl
  have h2 : z / 2 ^ r < 4294967296 := Nat.lt_of_le_of_lt (Nat.div_le_self _ _) hz
  rw [h1]
  generalize z / 2 ^ r = y at *
  have h3 : Go.bits .and .u32 (y : Int) 1 = ((y % 2 : Nat) : Int) := by
    have h4 : (BitVec.ofInt 32 (y : Int)).toNat = y := by
      rw [BitVec.ofInt_natCast, BitVec.toNat_ofNat]; exact Nat.mod_eq_of_lt (by omega)
    show IntKind.u32.wrap ((BitVec.ofInt 32 (y : Int) &&& BitVec.ofInt 32 1).toNat : Int) = _
    have h5 : (BitVec.ofInt 32 1).toNat = 1 := rfl
    rw [BitVec.toNat_and, h4, h5, Nat.and_one_is_mod]
    simp [IntKind.wrap, IntKind.signed, IntKind.bits]
    omega
  rw [h3]
  by_cases h : y % 2 = 1
  · rw [decide_eq_true h, h]; rfl
  · rw [decide_eq_false h, show y % 2 = 0 by omega]; rfl
theorem bit0_ok {q : List Int} (ho : okl B32 q) (hl : q.length ≤ 10000) : numeralref02_Bit.f q 0 = some (decide (nv B32 q % 2 = 1)) := by
  unfold numeralref02_Bit.f
  have t0 : Int.tdiv 0 32 = 0 := rfl
  have m0 : Int.tmod 0 32 = 0 := rfl
  have w0 : wrap64 0 = 0 := by unfold wrap64; omega
  have u0 : IntKind.u64.wrap 0 = 0 := by rw [wrapu]; omega
  rw [if_pos (by omega), wrapi_id (n := 32 * (q.length : Int)) (by omega) (by omega)]
  cases q with
  | nil => rw [if_neg (by simp)]; rfl
  | cons x r =>
    obtain ⟨hx, _⟩ := okl_cons.1 ho
    obtain ⟨x, rfl⟩ := Int.eq_ofNat_of_zero_le hx.1
    have hx2 : x < 4294967296 := by have := hx.2; unfold B32 at this; omega
    have hr : rd ((x : Int) :: r) 0 = (x : Int) := rfl
    have hb := bit_and1 x 0 hx2 (by omega)
    rw [Nat.pow_zero, Nat.div_one, Int.ofNat_zero] at hb
    have hB : ∀ a b : Nat, (a + B32 * b) % 2 = a % 2 := by intro a b; unfold B32; omega
    rw [if_pos (by simp only [List.length_cons]; omega), t0, m0, w0, u0, if_pos (by omega), if_pos (by simp only [List.length_cons]; omega), if_pos (by omega), hr, hb, nv, hB, Int.toNat_natCast]
theorem word_ok {q : List Int} (ho : okl B32 q) (hl : q.length ≤ 2) {k : Nat} (hk : 5 ≤ k) : numeralref02_Word.f k q = some ((nv B32 q : Nat) : Int) := by
  unfold numeralref02_Word.f
  obtain ⟨k, rfl⟩ : ∃ j, k = j + 3 := ⟨k - 3, by omega⟩
  have w0 : wrap64 (32 * 0) = 0 := by unfold wrap64; omega
  have u0 : IntKind.u64.wrap 0 = 0 := by rw [wrapu]; omega
  have w1 : wrap64 (32 * 1) = 32 := by unfold wrap64; omega
  have u1 : IntKind.u64.wrap 32 = 32 := by rw [wrapu]; omega
  have a1 : wrap64 (0 + 1) = 1 := by unfold wrap64; omega
  have a2 : wrap64 (1 + 1) = 2 := by unfold wrap64; omega
  match q, ho, hl with
  | [], _, _ => rw [numeralref02_Word.l0, if_neg (by simp)]; rfl
  | [x], ho, _ =>
    obtain ⟨hx, _⟩ := okl_cons.1 ho
    obtain ⟨x, rfl⟩ := Int.eq_ofNat_of_zero_le hx.1
    have hx2 : x < 4294967296 := by have := hx.2; unfold B32 at this; omega
    have hr : rd [(x : Int)] 0 = (x : Int) := rfl
    have hs := shl_fit x 0 (by omega) (by rw [Nat.pow_zero]; omega)
    rw [Nat.pow_zero, Nat.mul_one, Int.ofNat_zero] at hs
    have ho := or_u 0 x (by omega) (by omega)
    rw [Nat.zero_or, Int.ofNat_zero] at ho
    rw [numeralref02_Word.l0, if_pos (by simp), if_pos (by omega), if_pos (by omega), w0, u0, if_pos (by omega), hr, wrapu_id (by omega) (by omega), hs, ho, a1, numeralref02_Word.l0, if_neg (by simp)]
    simp [nv]
  | [x, y], ho, _ =>
    obtain ⟨hx, ho2⟩ := okl_cons.1 ho
    obtain ⟨hy, _⟩ := okl_cons.1 ho2
    obtain ⟨x, rfl⟩ := Int.eq_ofNat_of_zero_le hx.1
    obtain ⟨y, rfl⟩ := Int.eq_ofNat_of_zero_le hy.1
    have hx2 : x < 4294967296 := by have := hx.2; unfold B32 at this; omega
    have hy2 : y < 4294967296 := by have := hy.2; unfold B32 at this; omega
    have hr : rd [(x : Int), (y : Int)] 0 = (x : Int) := rfl
    have hr2 : rd [(x : Int), (y : Int)] 1 = (y : Int) := rfl
    have hs := shl_fit x 0 (by omega) (by rw [Nat.pow_zero]; omega)
    rw [Nat.pow_zero, Nat.mul_one, Int.ofNat_zero] at hs
    have hs2 := shl_fit y 32 (by omega) (by omega)
    have ho := or_u 0 x (by omega) (by omega)
    rw [Nat.zero_or, Int.ofNat_zero] at ho
    have ho2 := or_disj' y x 32 (by omega) (by omega)
    have e32 : ((32 : Nat) : Int) = 32 := rfl
    rw [e32] at hs2
    rw [numeralref02_Word.l0, if_pos (by simp), if_pos (by omega), if_pos (by omega), w0, u0, if_pos (by omega), hr, wrapu_id (n := (x : Int)) (by omega) (by omega), hs, ho, a1, numeralref02_Word.l0, if_pos (by simp), if_pos (by omega), if_pos (by omega), w1, u1, if_pos (by omega), hr2, wrapu_id (n := (y : Int)) (by omega) (by omega), hs2, ho2, a2, numeralref02_Word.l0, if_neg (by simp)]
    congr 2
    simp only [nv, Int.toNat_natCast]
    unfold B32; omega
theorem below_ok {n d : List Int} (hn : okl B32 n) (hd : okl B32 d) (tn : top n) (td : top d) (ln : n.length ≤ 600) (ld : d.length ≤ 600) (e : Int) (he0 : -50000 ≤ e) (he1 : e ≤ 50000) {k : Nat} (hk : 8000 ≤ k) :
    numeralref12_below.f k n d e = some (decide (nv B32 n * pd e < nv B32 d * pu e)) := by
  unfold numeralref12_below.f
  by_cases h : e ≥ 0
  · obtain ⟨a, rfl⟩ := Int.eq_ofNat_of_zero_le h
    obtain ⟨p, p1, p2, p3, p4, p5⟩ := up_ok hd (by omega) (n := a) (by omega) (k := k) (by omega)
    have hc := rcmp_ok b32_one hn p2 tn p3 (by omega) (by omega) (k := k) (by omega)
    have e1 : pd (a : Int) = 1 := by unfold pd; rw [show (-(a : Int)).toNat = 0 by omega]
    have e2 : pu (a : Int) = 2 ^ a := by unfold pu; rw [Int.toNat_natCast]
    rw [if_pos h, bind_eq p1, bind_eq hc, p4, e1, e2, Nat.mul_one, Nat.mul_comm (2 ^ a)]
    congr 1; exact decide_eq_decide.2 (cmpn_neg _ _)
  · obtain ⟨a, ha⟩ : ∃ a : Nat, e = -(a : Int) := ⟨(-e).toNat, by omega⟩
    subst ha
    obtain ⟨p, p1, p2, p3, p4, p5⟩ := up_ok hn (by omega) (n := a) (by omega) (k := k) (by omega)
    have hc := rcmp_ok b32_one p2 hd p3 td (by omega) (by omega) (k := k) (by omega)
    have e1 : pu (-(a : Int)) = 1 := by unfold pu; rw [show (-(a : Int)).toNat = 0 by omega]
    have e2 : pd (-(a : Int)) = 2 ^ a := by unfold pd; rw [show (- -(a : Int)).toNat = a by omega]
    rw [if_neg h, wrapi_id (by omega) (by omega), show - -(a : Int) = (a : Int) by omega, bind_eq p1, bind_eq hc, p4, e1, e2, Nat.mul_one, Nat.mul_comm (2 ^ a)]
    congr 1; exact decide_eq_decide.2 (cmpn_neg _ _)
/-- The exponent of the first bit, by both lengths. -/
theorem fb_of {n d Ln Ld : Nat} (hn0 : 0 < n) (hd0 : 0 < d) (hn : bl n Ln) (hd : bl d Ld) :
    fb n d (if n * pd ((Ln : Int) - Ld) < d * pu ((Ln : Int) - Ld) then (Ln : Int) - Ld - 1 else (Ln : Int) - Ld) := by
  obtain ⟨n1, n2, _⟩ := hn
  obtain ⟨d1, d2, _⟩ := hd
  obtain ⟨n2, n3⟩ := n2 hn0
  obtain ⟨d2, d3⟩ := d2 hd0
  generalize hE : (Ln : Int) - Ld = e
  by_cases h : n * pd e < d * pu e
  · rw [if_pos h]
    refine ⟨?_, ?_⟩
    · have a1 : d * pu (e - 1) ≤ 2 ^ Ld * pu (e - 1) := Nat.mul_le_mul_right _ (by omega)
      have a2 : 2 ^ (Ln - 1) * pd (e - 1) ≤ n * pd (e - 1) := Nat.mul_le_mul_right _ n3
      have a3 : 2 ^ Ld * pu (e - 1) = 2 ^ (Ln - 1) * pd (e - 1) := by
        unfold pu pd
        rw [← Nat.pow_add, ← Nat.pow_add]; congr 1; omega
      omega
    · have a1 : n * pd e * pd (e - 1) < d * pu e * pd (e - 1) := Nat.mul_lt_mul_of_pos_right h (pd_pos _)
      have a2 : pu e * pd (e - 1) = 2 * (pu (e - 1) * pd e) := by
        unfold pu pd
        rw [← Nat.pow_add, ← Nat.pow_add, Nat.mul_comm 2, ← Nat.pow_succ]; congr 1; omega
      have a3 : n * pd (e - 1) * pd e < 2 * (d * pu (e - 1)) * pd e := by
        calc n * pd (e - 1) * pd e = n * pd e * pd (e - 1) := by rw [Nat.mul_assoc, Nat.mul_assoc, Nat.mul_comm (pd e)]
          _ < d * pu e * pd (e - 1) := a1
          _ = d * (2 * (pu (e - 1) * pd e)) := by rw [Nat.mul_assoc, a2]
          _ = 2 * (d * pu (e - 1)) * pd e := by rw [Nat.mul_left_comm, Nat.mul_assoc, Nat.mul_assoc]
      exact Nat.lt_of_mul_lt_mul_right a3
  · rw [if_neg h]
    refine ⟨by omega, ?_⟩
    have a1 : n * pd e < 2 ^ Ln * pd e := Nat.mul_lt_mul_of_pos_right n1 (pd_pos _)
    have a2 : 2 ^ (Ld - 1) * pu e ≤ d * pu e := Nat.mul_le_mul_right _ d3
    have a3 : 2 ^ Ln * pd e = 2 * (2 ^ (Ld - 1) * pu e) := by
      unfold pu pd
      rw [← Nat.pow_add, ← Nat.pow_add, Nat.mul_comm 2, ← Nat.pow_succ]; congr 1; omega
    omega
def frv (I Q : Nat) (b : Option Nat) : Int × Bool :=
  if Q = 0 then (0, false) else match b with
    | some q => ((q : Int), false)
    | none => ((I : Int), true)
theorem frac_j3 {size F E S : Nat} {L : Int} {I : Nat} (h : IsFmt size F E S L I) (n d : List Int) {q : List Int} (ho : okl B32 q) (tq : top q) (hq : nv B32 q ≤ 2 ^ (F + 1)) (last : Int) (b : Option Nat)
    (hb : 0 < nv B32 q → ∀ k, numeralref11_Pack.f (k + 200) false 2 ((nv B32 q : Nat) : Int) last size = some (rv S false b)) {k : Nat} (hk : 300 ≤ k) :
    numeralref12_Fraction.j3 k size n d last q = some ((frv I (nv B32 q) b).1, (frv I (nv B32 q) b).2, n, d) := by
  obtain ⟨hF0, hF, hS, hFS, hL, _, hF23⟩ := fmt_small h
  obtain ⟨k, rfl⟩ : ∃ j, k = j + 1 := ⟨k - 1, by omega⟩
  have hz := nv_eq_zero b32_one ho tq
  rw [numeralref12_Fraction.j3]
  by_cases h0 : nv B32 q = 0
  · rw [hz.1 h0, if_pos (by simp)]
    unfold frv; rw [if_pos (by rfl)]
  · have hne : q ≠ [] := fun c => h0 (hz.2 c)
    have hlen : q.length ≠ 0 := fun c => hne (List.length_eq_zero_iff.1 c)
    have h64 : 2 ^ (F + 1) < B32 ^ 2 := by
      have : (2 : Nat) ^ (F + 1) ≤ 2 ^ 63 := Nat.pow_le_pow_right (by decide) (by omega)
      have e : B32 ^ 2 = 18446744073709551616 := by decide
      omega
    have h2 : q.length ≤ 2 := (top_length b32_one ho tq 2).2 (by omega)
    have hp := hb (by omega) (k - 200)
    rw [show k - 200 + 200 = k by omega] at hp
    rw [if_neg (by omega), bind_eq (word_ok ho h2 (by omega)), bind_eq hp]
    unfold frv; rw [if_neg h0]
    cases b with
    | some v => rw [if_pos (by rfl)]; simp only [rv, sgn, Bool.false_eq_true, if_false]
    | none => rw [if_neg (by simp [rv]), bind_eq (rInfv_ok h)]
theorem frac_j2 {size F E S : Nat} {L : Int} {I : Nat} (h : IsFmt size F E S L I) (n d : List Int) {t : List Int} (ho : okl B32 t) (tt : top t) (flag : Bool) {Q : Nat} (hQ : Q = nv B32 t + (if flag = true then 1 else 0)) (hq : Q ≤ 2 ^ (F + 1)) (last : Int) (b : Option Nat)
    (hb : 0 < Q → ∀ k, numeralref11_Pack.f (k + 200) false 2 ((Q : Nat) : Int) last size = some (rv S false b)) {k : Nat} (hk : 2000 ≤ k) :
    numeralref12_Fraction.j2 k size n d last t flag = some ((frv I Q b).1, (frv I Q b).2, n, d) := by
  obtain ⟨hF0, hF, hS, hFS, hL, _, hF23⟩ := fmt_small h
  obtain ⟨k, rfl⟩ : ∃ j, k = j + 1 := ⟨k - 1, by omega⟩
  rw [numeralref12_Fraction.j2]
  cases flag with
  | false =>
    rw [if_neg (by simp)] at hQ
    rw [if_neg (by simp)]
    rw [Nat.add_zero] at hQ
    subst hQ
    exact frac_j3 h n d ho tt hq last b hb (by omega)
  | true =>
    rw [if_pos rfl] at hQ
    obtain ⟨o, o1, o2, o3, o4, o5⟩ := small_ok (d := 1) (by decide) (k := k) (by omega)
    have h64 : 2 ^ (F + 1) < B32 ^ 2 := by
      have : (2 : Nat) ^ (F + 1) ≤ 2 ^ 63 := Nat.pow_le_pow_right (by decide) (by omega)
      have e : B32 ^ 2 = 18446744073709551616 := by decide
      omega
    have h2 : t.length ≤ 2 := (top_length b32_one ho tt 2).2 (by omega)
    obtain ⟨p, p1, p2, p3, p4, p5⟩ := plus_ok ho o2 (by omega) (by omega) (k := k) (by omega)
    rw [show ((1 : Nat) : Int) = 1 from rfl] at o1
    rw [if_pos rfl, bind_eq o1, bind_eq p1]
    have e : nv B32 p = Q := by rw [p4, o4]; omega
    subst e
    exact frac_j3 h n d p2 p3 hq last b hb (by omega)
theorem cmpn_pos (a b : Nat) : cmpn a b > 0 ↔ b < a := by
  unfold cmpn
  by_cases h : a < b
  · rw [if_pos h]; constructor <;> intro h2 <;> omega
  · rw [if_neg h]
    by_cases h2 : a > b
    · rw [if_pos h2]; constructor <;> intro h3 <;> omega
    · rw [if_neg h2]; constructor <;> intro h3 <;> omega
theorem cmpn_zero (a b : Nat) : cmpn a b = 0 ↔ a = b := by
  unfold cmpn
  by_cases h : a < b
  · rw [if_pos h]; constructor <;> intro h2 <;> omega
  · rw [if_neg h]
    by_cases h2 : a > b
    · rw [if_pos h2]; constructor <;> intro h3 <;> omega
    · rw [if_neg h2]; constructor <;> intro h3 <;> omega
theorem frac_j1 {size F E S : Nat} {L : Int} {I : Nat} (h : IsFmt size F E S L I) (n d : List Int) {x y : List Int} (hx : okl B32 x) (hy : okl B32 y) (tx : top x) (ty : top y) (lx : x.length ≤ 1000) (ly : y.length ≤ 990) (h0 : 0 < nv B32 y) (more : Bool) {Q : Nat} (hQ : Q = rq (nv B32 x) (nv B32 y) more) (hq : Q ≤ 2 ^ (F + 1)) (last : Int) (b : Option Nat)
    (hb : 0 < Q → ∀ k, numeralref11_Pack.f (k + 200) false 2 ((Q : Nat) : Int) last size = some (rv S false b)) {k : Nat} (hk : 110000 ≤ k) :
    numeralref12_Fraction.j1 k size n d more last x y = some ((frv I Q b).1, (frv I Q b).2, n, d) := by
  obtain ⟨k, rfl⟩ : ∃ j, k = j + 1 := ⟨k - 1, by omega⟩
  obtain ⟨t, r, o1, o2, o3, o4, o5, o6, o7, o8⟩ := over_ok hx hy tx ty lx (by omega) h0 (k := k) (by omega)
  have hrl : r.length ≤ y.length := len_le_of_nv b32_one hy o4 o5 (by omega)
  obtain ⟨p, p1, p2, p3, p4, p5⟩ := up_ok o4 (by omega) (n := 1) (by omega) (k := k) (by omega)
  have hc := rcmp_ok b32_one p2 hy p3 ty (by omega) (by omega) (k := k) (by omega)
  have hdiv : nv B32 x / nv B32 y = nv B32 t := by
    rw [← o6, Nat.mul_comm, Nat.mul_add_div h0, Nat.div_eq_of_lt o7, Nat.add_zero]
  have hmod : nv B32 x % nv B32 y = nv B32 r := by
    rw [← o6, Nat.mul_comm, Nat.mul_add_mod, Nat.mod_eq_of_lt o7]
  rw [show ((1 : Nat) : Int) = 1 from rfl] at p1
  rw [Nat.pow_one] at p4
  rw [p4] at hc
  rw [numeralref12_Fraction.j1, bind_eq o1, bind_eq p1, bind_eq hc]
  unfold rq at hQ
  rw [hdiv, hmod] at hQ
  by_cases h1 : nv B32 y < 2 * nv B32 r
  · rw [if_pos ((cmpn_pos _ _).2 h1)]
    rw [if_pos (.inl h1)] at hQ
    exact frac_j2 h n d o2 o3 true (by rw [if_pos rfl]; exact hQ) hq last b hb (by omega)
  · rw [if_neg (fun c => h1 ((cmpn_pos _ _).1 c))]
    by_cases h2 : 2 * nv B32 r = nv B32 y
    · rw [if_pos ((cmpn_zero _ _).2 h2)]
      cases more with
      | true =>
        rw [if_pos (.inr ⟨h2, .inl rfl⟩)] at hQ
        rw [if_pos rfl]
        exact frac_j2 h n d o2 o3 true (by rw [if_pos rfl]; exact hQ) hq last b hb (by omega)
      | false =>
        rw [if_neg (by simp), bind_eq (bit0_ok o2 (by omega))]
        by_cases h3 : nv B32 t % 2 = 1
        · rw [if_pos (.inr ⟨h2, .inr h3⟩)] at hQ
          rw [decide_eq_true h3]
          exact frac_j2 h n d o2 o3 true (by rw [if_pos rfl]; exact hQ) hq last b hb (by omega)
        · rw [if_neg (by rintro (c | ⟨_, c | c⟩); exact h1 c; simp at c; exact h3 c)] at hQ
          rw [decide_eq_false h3]
          exact frac_j2 h n d o2 o3 false (by rw [if_neg (by simp)]; exact hQ) hq last b hb (by omega)
    · rw [if_neg (fun c => h2 ((cmpn_zero _ _).1 c))]
      rw [if_neg (by rintro (c | ⟨c, _⟩); exact h1 c; exact h2 c)] at hQ
      exact frac_j2 h n d o2 o3 false (by rw [if_neg (by simp)]; exact hQ) hq last b hb (by omega)
/-- The reference's Fraction. -/
theorem Fraction_ok {size F E S : Nat} {L : Int} {I : Nat} (h : IsFmt size F E S L I) {n d : List Int} (hn : okl B32 n) (hd : okl B32 d) (tn : top n) (td : top d) (ln : n.length ≤ 256) (ld : d.length ≤ 256) (n0 : 0 < nv B32 n) (d0 : 0 < nv B32 d) (exp : Int) (he0 : -20000 ≤ exp) (he1 : exp ≤ 20000) (more : Bool) :
    ∃ e, fb (nv B32 n) (nv B32 d) e ∧ -9000 ≤ e ∧ e ≤ 9000 ∧ ∀ (b : Option Nat), (0 < man (nv B32 n) (nv B32 d) exp (lst F L e exp) more → ∀ k, numeralref11_Pack.f (k + 200) false 2 ((man (nv B32 n) (nv B32 d) exp (lst F L e exp) more : Nat) : Int) (lst F L e exp) size = some (rv S false b)) → ∀ k, 120000 ≤ k →
      numeralref12_Fraction.f k size n d exp more = some ((frv I (man (nv B32 n) (nv B32 d) exp (lst F L e exp) more) b).1, (frv I (man (nv B32 n) (nv B32 d) exp (lst F L e exp) more) b).2, n, d) := by
  obtain ⟨hF0, hF, hS, hFS, hL, _, hF23⟩ := fmt_small h
  obtain ⟨Ln, _, x2, x3⟩ := len_ok hn tn (by omega) (k := 100) (by omega)
  obtain ⟨Ld, _, y2, y3⟩ := len_ok hd td (by omega) (k := 100) (by omega)
  have hfb := fb_of n0 d0 x2 y2
  generalize hE : (if nv B32 n * pd ((Ln : Int) - Ld) < nv B32 d * pu ((Ln : Int) - Ld) then (Ln : Int) - Ld - 1 else (Ln : Int) - Ld) = e at hfb
  have heb : -9000 ≤ e ∧ e ≤ 9000 := by rw [← hE]; split <;> omega
  refine ⟨e, hfb, heb.1, heb.2, fun b hb k hk => ?_⟩
  have hsm := man_small (F := F) (L := L) (exp := exp) d0 hfb more
  obtain ⟨Ln', x1, x2', _⟩ := len_ok hn tn (by omega) (k := k) (by omega)
  obtain ⟨Ld', y1, y2', _⟩ := len_ok hd td (by omega) (k := k) (by omega)
  have bl_unique : ∀ {n L M : Nat}, 0 < n → bl n L → bl n M → L = M := by
    intro n L M hn ⟨a1, a2, _⟩ ⟨b1, b2, _⟩
    obtain ⟨a2, a3⟩ := a2 hn
    obtain ⟨b2, b3⟩ := b2 hn
    rcases Nat.lt_trichotomy L M with c | c | c
    · have : 2 ^ L ≤ 2 ^ (M - 1) := Nat.pow_le_pow_right (by decide) (by omega)
      omega
    · exact c
    · have : 2 ^ M ≤ 2 ^ (L - 1) := Nat.pow_le_pow_right (by decide) (by omega)
      omega
  have q1 := bl_unique n0 x2 x2'
  have q2 := bl_unique d0 y2 y2'
  subst q1; subst q2
  unfold numeralref12_Fraction.f
  rw [bind_eq (rformat_ok h), bind_eq x1, bind_eq y1, wrapi_id (n := (Ln : Int) - (Ld : Int)) (by omega) (by omega), bind_eq (below_ok hn hd tn td (by omega) (by omega) _ (by omega) (by omega) (by omega))]
  have hj0 : numeralref12_Fraction.j0 k size n d exp more ((F : Int) + 1) L e = some ((frv I (man (nv B32 n) (nv B32 d) exp (lst F L e exp) more) b).1, (frv I (man (nv B32 n) (nv B32 d) exp (lst F L e exp) more) b).2, n, d) := by
    obtain ⟨k, rfl⟩ : ∃ j, k = j + 1 := ⟨k - 1, by omega⟩
    have hlast : mx (wrap64 ((wrap64 ((wrap64 (e + exp)) - ((F : Int) + 1))) + 1)) L = lst F L e exp := by
      rw [wrapi_id (n := e + exp) (by omega) (by omega), wrapi_id (n := e + exp - ((F : Int) + 1)) (by omega) (by omega), wrapi_id (by omega) (by omega), mx_int]
      unfold lst; omega
    have hlb : -1074 ≤ lst F L e exp ∧ lst F L e exp ≤ 30000 ∧ -9100 ≤ lst F L e exp - exp ∨ True := .inr trivial
    have hl1 : e + exp - F ≤ lst F L e exp ∧ L ≤ lst F L e exp ∧ (lst F L e exp = e + exp - F ∨ lst F L e exp = L) := by unfold lst; omega
    rw [numeralref12_Fraction.j0, hlast]
    generalize lst F L e exp = last at *
    have hw : wrap64 (exp - last) = exp - last := wrapi_id (by omega) (by omega)
    rw [hw]
    by_cases hs : exp - last ≥ 0
    · obtain ⟨s, hs'⟩ := Int.eq_ofNat_of_zero_le hs
      obtain ⟨p, p1, p2, p3, p4, p5⟩ := up_ok hn (by omega) (n := s) (by omega) (k := k) (by omega)
      rw [if_pos hs, hs', bind_eq p1]
      refine frac_j1 h n d p2 hd p3 td (by omega) (by omega) d0 more ?_ (by omega) last b hb (by omega)
      unfold man
      have e1 : pd (exp - last) = 1 := by unfold pd; rw [show (-(exp - last)).toNat = 0 by omega]
      have e2 : pu (exp - last) = 2 ^ s := by unfold pu; rw [hs', Int.toNat_natCast]
      rw [p4, e1, e2, Nat.mul_one, Nat.mul_comm (2 ^ s)]
    · obtain ⟨s, hs'⟩ : ∃ s : Nat, exp - last = -(s : Int) := ⟨(last - exp).toNat, by omega⟩
      obtain ⟨p, p1, p2, p3, p4, p5⟩ := up_ok hd (by omega) (n := s) (by omega) (k := k) (by omega)
      rw [if_neg hs, hs', wrapi_id (n := - -(s : Int)) (by omega) (by omega), show - -(s : Int) = (s : Int) by omega, bind_eq p1]
      have hp0 : 0 < nv B32 p := by rw [p4]; exact Nat.mul_pos (Nat.two_pow_pos _) d0
      refine frac_j1 h n d hn p2 tn p3 (by omega) (by omega) hp0 more ?_ (by omega) last b hb (by omega)
      unfold man
      have e1 : pu (exp - last) = 1 := by unfold pu; rw [show (exp - last).toNat = 0 by omega]
      have e2 : pd (exp - last) = 2 ^ s := by unfold pd; rw [show (-(exp - last)).toNat = s by omega]
      rw [p4, e1, e2, Nat.mul_one, Nat.mul_comm (2 ^ s)]
  by_cases hlt : nv B32 n * pd ((Ln : Int) - Ld) < nv B32 d * pu ((Ln : Int) - Ld)
  · rw [if_pos hlt] at hE
    rw [if_pos (decide_eq_true hlt), wrapi_id (n := (Ln : Int) - (Ld : Int) - 1) (by omega) (by omega), hE]
    exact hj0
  · rw [if_neg hlt] at hE
    rw [if_neg (by simpa using hlt), hE]
    exact hj0
/-- With a sign. -/
theorem rounded_ok {size F E S : Nat} {L : Int} {I : Nat} (h : IsFmt size F E S L I) (neg : Bool) {n d : List Int} (hn : okl B32 n) (hd : okl B32 d) (tn : top n) (td : top d) (ln : n.length ≤ 256) (ld : d.length ≤ 256) (n0 : 0 < nv B32 n) (d0 : 0 < nv B32 d) (exp : Int) (he0 : -20000 ≤ exp) (he1 : exp ≤ 20000) (more : Bool) :
    ∃ e, fb (nv B32 n) (nv B32 d) e ∧ -9000 ≤ e ∧ e ≤ 9000 ∧ ∀ (b : Option Nat), (∀ q, b = some q → q < 2 ^ S) → (0 < man (nv B32 n) (nv B32 d) exp (lst F L e exp) more → ∀ k, numeralref11_Pack.f (k + 200) false 2 ((man (nv B32 n) (nv B32 d) exp (lst F L e exp) more : Nat) : Int) (lst F L e exp) size = some (rv S false b)) → ∀ k, 130000 ≤ k →
      numeralref12_rounded.f k size neg n d exp more = some ((ans S I neg (man (nv B32 n) (nv B32 d) exp (lst F L e exp) more) b).1, (ans S I neg (man (nv B32 n) (nv B32 d) exp (lst F L e exp) more) b).2, n, d) := by
  obtain ⟨e, e1, e2, e3, e4⟩ := Fraction_ok h hn hd tn td ln ld n0 d0 exp he0 he1 more
  obtain ⟨hI0, hI1, hS63⟩ := fmt_I h
  refine ⟨e, e1, e2, e3, fun b hq hb k hk => ?_⟩
  obtain ⟨k, rfl⟩ : ∃ j, k = j + 2 := ⟨k - 2, by omega⟩
  have hf := e4 b hb (k + 1) (by omega)
  have hlen : n.length ≠ 0 := fun c => by rw [List.length_eq_zero_iff.1 c] at n0; simp [nv] at n0
  unfold numeralref12_rounded.f
  rw [if_neg (by omega), decide_eq_false (by omega), numeralref12_rounded.j0, if_neg (by simp), bind_eq (rInfv_ok h), if_pos he1, bind_eq hf]
  generalize man (nv B32 n) (nv B32 d) exp (lst F L e exp) more = Q at *
  show numeralref12_rounded.j1 (k + 1) size neg n d (frv I Q b).1 (frv I Q b).2 = _
  unfold frv ans
  by_cases hQ : Q = 0
  · rw [if_pos hQ, if_pos hQ, numeralref12_rounded.j1, if_neg (by simp)]
    have := Signed_ok h neg (x := 0) (Nat.two_pow_pos _)
    rw [Int.ofNat_zero] at this
    rw [bind_eq this]; rfl
  · rw [if_neg hQ, if_neg hQ, numeralref12_rounded.j1]
    cases b with
    | some q =>
      have := Signed_ok h neg (x := q) (hq q rfl)
      show (if false = true then _ else _) = _
      rw [if_neg (by simp), bind_eq this]; rfl
    | none =>
      have := Signed_ok h neg (x := I) hI1
      show (if true = true then _ else _) = _
      rw [if_pos rfl, bind_eq this]; rfl
theorem rounded_low {size F E S : Nat} {L : Int} {I : Nat} (h : IsFmt size F E S L I) (neg : Bool) {n d : List Int} (exp : Int) (he : n.length = 0 ∨ exp < -20000) (more : Bool) (k : Nat) :
    numeralref12_rounded.f (k + 2) size neg n d exp more = some (((sgn S neg 0 : Nat) : Int), 0, n, d) := by
  have := Signed_ok h neg (x := 0) (Nat.two_pow_pos _)
  rw [Int.ofNat_zero] at this
  have hj : numeralref12_rounded.j0 (k + 2) size neg n d exp more true = some (((sgn S neg 0 : Nat) : Int), 0, n, d) := by
    rw [numeralref12_rounded.j0, if_pos rfl, bind_eq this]; rfl
  unfold numeralref12_rounded.f
  by_cases h0 : (n.length : Int) = 0
  · rw [if_pos h0]; exact hj
  · rw [if_neg h0, decide_eq_true (by omega)]; exact hj
theorem rounded_high {size F E S : Nat} {L : Int} {I : Nat} (h : IsFmt size F E S L I) (neg : Bool) {n d : List Int} (hn : n.length ≠ 0) (exp : Int) (he : 20000 < exp) (more : Bool) (k : Nat) :
    numeralref12_rounded.f (k + 2) size neg n d exp more = some (((sgn S neg I : Nat) : Int), 4, n, d) := by
  obtain ⟨hI0, hI1, hS63⟩ := fmt_I h
  have := Signed_ok h neg (x := I) hI1
  unfold numeralref12_rounded.f
  rw [if_neg (by omega), decide_eq_false (by omega), numeralref12_rounded.j0, if_neg (by simp), bind_eq (rInfv_ok h), if_neg (by omega), numeralref12_rounded.j1, if_pos rfl, bind_eq this]; rfl
end Go.Proofs.YtbjmfocjigikgaaDoor.XrB
end
section
namespace Go.Proofs.YtbjmfocjigikgaaDoor.XrB
open Go.RowKit Go.Proofs.YtbjmfocjigikgaaDoor.Xr Go.Proofs.YtbjmfocjigikgaaDoor.A Go.Proofs.YtbjmfocjigikgaaDoor.L Go.Proofs.YtbjmfocjigikgaaDoor.Q Go.Proofs.YtbjmfocjigikgaaDoor.XrH Go.Proofs.YtbjmfocjigikgaaDoorW.PrintWords Go.Proofs.YtbjmfocjigikgaaDoorW.PrintLast Go.Proofs.YtbjmfocjigikgaaDoorW.PrintMore
set_option linter.unusedSimpArgs false
set_option linter.unusedVariables false
theorem pformat_ok {size F E S : Nat} {L : Int} {I : Nat} (h : IsFmt size F E S L I) : round_format.f size = some ((F : Int) + 1, L, true) := by
  rcases h with ⟨rfl, rfl, rfl, rfl, rfl, rfl⟩ | ⟨rfl, rfl, rfl, rfl, rfl, rfl⟩ <;> rfl
theorem pformat_bad {size : Int} (h1 : size ≠ 32) (h2 : size ≠ 64) : round_format.f size = some (0, 0, false) := by
  unfold round_format.f; rw [if_neg h1, if_neg h2]
theorem pInf_ok {size F E S : Nat} {L : Int} {I : Nat} (h : IsFmt size F E S L I) (k : Nat) (neg : Bool) : bits_Inf.f k neg size = some (((sgn S neg I : Nat) : Int), none) := by
  unfold bits_Inf.f; rw [bind_eq (Pack_inf' h k neg 0 0)]
theorem pZero_ok {size F E S : Nat} {L : Int} {I : Nat} (h : IsFmt size F E S L I) (k : Nat) (neg : Bool) : bits_Zero.f k neg size = some (((sgn S neg 0 : Nat) : Int), none) := by
  unfold bits_Zero.f; rw [bind_eq (Pack_zero' h k neg 0 0)]
theorem far_ok {e : Int} (h0 : -1099511627776 ≤ e) (h1 : e ≤ 1099511627776) : round_far.f e = some false := by
  unfold round_far.f; rw [if_neg (by omega), decide_eq_false (by omega)]
theorem far_bad {e : Int} (h : e < -1099511627776 ∨ 1099511627776 < e) : round_far.f e = some true := by
  unfold round_far.f
  by_cases h0 : e < -1099511627776
  · rw [if_pos h0]
  · rw [if_neg h0, decide_eq_true (by omega)]
theorem pack_j1 {size F E S : Nat} {L : Int} {I : Nat} (h : IsFmt size F E S L I) (neg : Bool) {Q : Nat} (last : Int) (b : Option Nat)
    (hb : 0 < Q → ∀ (neg : Bool) (k : Nat), bits_Pack.f (k + 200) neg 2 ((Q : Nat) : Int) last size = some (pv S neg b)) (k : Nat) :
    round_pack.j1 (k + 202) size neg (Q : Int) last = some ((ans S I neg Q b).1, errv (ans S I neg Q b).2) := by
  rw [round_pack.j1]
  unfold ans
  by_cases h0 : Q = 0
  · subst h0
    rw [if_pos (by rfl), if_pos rfl, round_pack.j2, bind_eq (Pack_zero' h _ neg 0 0), if_pos (by rfl)]; rfl
  · rw [if_neg (by omega), if_neg h0, round_pack.j2, bind_eq (hb (by omega) neg k)]
    cases b with
    | some q => rw [if_pos (by rfl)]; rfl
    | none => rw [if_neg (by simp [pv]), bind_eq (pInf_ok h _ neg)]; rfl
theorem pack_ok {size F E S : Nat} {L : Int} {I : Nat} (h : IsFmt size F E S L I) (neg : Bool) {mant Q : Nat} (hm : mant < 9223372036854775808) (last : Int) (half more : Bool) (hQ : Q = if half = true ∧ (more = true ∨ mant % 2 = 1) then mant + 1 else mant) (b : Option Nat)
    (hb : 0 < Q → ∀ (neg : Bool) (k : Nat), bits_Pack.f (k + 200) neg 2 ((Q : Nat) : Int) last size = some (pv S neg b)) (k : Nat) :
    round_pack.f (k + 203) size neg (mant : Int) last half more = some ((ans S I neg Q b).1, errv (ans S I neg Q b).2) := by
  have hand : (Go.bits .and .u64 (mant : Int) 1 == 1) = decide (mant % 2 = 1) := by
    rw [and_one (by omega)]
    by_cases c : mant % 2 = 1
    · rw [decide_eq_true c, c]; rfl
    · rw [decide_eq_false c, show mant % 2 = 0 by omega]; rfl
  have hup : IntKind.u64.wrap ((mant : Int) + 1) = ((mant + 1 : Nat) : Int) := by rw [wrapu_id (by omega) (by omega)]; omega
  unfold round_pack.f
  cases half with
  | false =>
    rw [if_neg (by simp)] at hQ
    subst hQ
    rw [if_neg (by simp), round_pack.j0, if_neg (by simp)]
    exact pack_j1 h neg last b hb k
  | true =>
    rw [if_pos rfl]
    cases more with
    | true =>
      rw [if_pos ⟨rfl, .inl rfl⟩] at hQ
      subst hQ
      rw [if_pos rfl, round_pack.j0, if_pos rfl, hup]
      exact pack_j1 h neg last b hb k
    | false =>
      rw [if_neg (by simp), hand]
      by_cases c : mant % 2 = 1
      · rw [if_pos ⟨rfl, .inr c⟩] at hQ
        subst hQ
        rw [decide_eq_true c, round_pack.j0, if_pos rfl, hup]
        exact pack_j1 h neg last b hb k
      · rw [if_neg (by rintro ⟨_, c2 | c2⟩; simp at c2; exact c c2)] at hQ
        subst hQ
        rw [decide_eq_false c, round_pack.j0, if_neg (by simp)]
        exact pack_j1 h neg last b hb k
end Go.Proofs.YtbjmfocjigikgaaDoor.XrB
end
section
namespace Go.Proofs.YtbjmfocjigikgaaDoor.XrH
open Go.RowKit Go.Proofs.YtbjmfocjigikgaaDoor.Xr Go.Proofs.YtbjmfocjigikgaaDoor.A Go.Proofs.YtbjmfocjigikgaaDoor.L Go.Proofs.YtbjmfocjigikgaaDoorW.PrintWords Go.Proofs.YtbjmfocjigikgaaDoorW.PrintLast Go.Proofs.YtbjmfocjigikgaaDoorW.PrintMore
set_option linter.unusedSimpArgs false
set_option linter.unusedVariables false
theorem tmod64 (n : Nat) : Int.tmod (n : Int) 64 = ((n % 64 : Nat) : Int) := (Int.ofNat_tmod n 64).symm
theorem tdiv64 (n : Nat) : Int.tdiv (n : Int) 64 = ((n / 64 : Nat) : Int) := (Int.ofNat_tdiv n 64).symm
theorem pow_split64 (n : Nat) : 2 ^ n = B64 ^ (n / 64) * 2 ^ (n % 64) := by
  have e : B64 = 2 ^ 64 := rfl
  rw [e, ← Nat.pow_mul, ← Nat.pow_add]; congr 1; have := Nat.div_add_mod n 64; omega
theorem getD_set_ne {l : List Int} {i j : Nat} (x : Int) (h : i ≠ j) : (l.set i x).getD j 0 = l.getD j 0 := by
  simp only [List.getD_eq_getElem?_getD]; rw [List.getElem?_set_ne h]
theorem getD_set_eq {l : List Int} {i : Nat} (x : Int) (h : i < l.length) : (l.set i x).getD i 0 = x := by
  simp only [List.getD_eq_getElem?_getD]; rw [List.getElem?_set_self h]; rfl
theorem Bits_ok {a : List Int} (ha : okl B64 a) (hv : vnum a = 0) : ∃ L : Nat, nat_Bits.f a = some ((L : Int), none) ∧ bl (nv B64 a) L := by
  obtain ⟨la, ta⟩ := (vnum_zero a).1 hv
  have hV := Valid_ok (l := a) (by omega)
  unfold nat_Bits.f
  rw [bind_eqh hV, if_pos (by rw [errn_isNone]; exact hv)]
  by_cases h0 : a.length = 0
  · rw [if_pos (by omega)]
    have : a = [] := List.length_eq_zero_iff.1 h0
    subst this
    exact ⟨0, rfl, by decide, fun h => absurd h (by simp [nv]), fun _ => rfl⟩
  · obtain ⟨r, hr⟩ : ∃ r, a.length = r + 1 := ⟨a.length - 1, by omega⟩
    obtain ⟨x, hx, hxB, hxn⟩ := dig_at ha b64_pos r
    have hxB' : x < 18446744073709551616 := hxB
    have hx0 : 0 < x := by
      rcases Nat.eq_zero_or_pos x with h | h
      · exfalso
        have h1 := (top_iff a).1 ta
        apply h1
        refine ⟨by omega, ?_⟩
        rw [show a.length - 1 = r by omega]
        have h2 := okl_get ha r b64_pos
        omega
      · exact h
    obtain ⟨b0, b1, b2⟩ := blen_spec _ x rfl hx0 hxB'
    have hbl := bitLen_le64 x hxB'
    have hlz : bits_LeadingZeros64.f (x : Int) = some ((64 - Lib.bitLen x : Nat) : Int) := by
      have hlen : bits_Len64.f (x : Int) = some ((Lib.bitLen x : Nat) : Int) := by
        unfold bits_Len64.f u64ok
        rw [if_pos (u64ok_of hxB'), Int.toNat_natCast]
      unfold bits_LeadingZeros64.f
      rw [bind_eqh hlen, wrapi_id (by omega) (by omega)]
      rw [show (64 : Int) - ((Lib.bitLen x : Nat) : Int) = ((64 - Lib.bitLen x : Nat) : Int) by omega]
    refine ⟨64 * r + Lib.bitLen x, ?_, ?_⟩
    · rw [if_neg (by omega), wrapi_id (n := (a.length : Int) - 1) (by omega) (by omega), if_pos (by omega), if_pos (by omega), show (a.length : Int) - 1 = (r : Int) by omega, hx, bind_eqh hlz, wrapi_id (n := 64 * (a.length : Int)) (by omega) (by omega), wrapi_id (by omega) (by omega)]
      rw [show 64 * (a.length : Int) - ((64 - Lib.bitLen x : Nat) : Int) = ((64 * r + Lib.bitLen x : Nat) : Int) by omega]
    · have h1 := nv_take_drop B64 a r (by omega)
      rw [drop_get (by omega : r < a.length), nv, hxn, List.drop_eq_nil_of_le (by omega), nv, Nat.mul_zero, Nat.add_zero] at h1
      have h2 := nv_lt b64_pos (okl_take ha r)
      rw [List.length_take, Nat.min_eq_left (by omega)] at h2
      have e : B64 ^ r = 2 ^ (64 * r) := by rw [show B64 = 2 ^ 64 from rfl, ← Nat.pow_mul]
      rw [e] at h1 h2
      have hP := Nat.two_pow_pos (64 * r)
      have h3 := Nat.mul_le_mul_left (2 ^ (64 * r)) (show x + 1 ≤ 2 ^ Lib.bitLen x from b2)
      have h4 := Nat.mul_le_mul_left (2 ^ (64 * r)) b1
      rw [Nat.mul_add, Nat.mul_one, ← Nat.pow_add] at h3
      rw [← Nat.pow_add] at h4
      have h5 : 2 ^ (64 * r) * 1 ≤ 2 ^ (64 * r) * x := Nat.mul_le_mul_left _ hx0
      refine ⟨by omega, fun _ => ⟨by omega, ?_⟩, fun h => by omega⟩
      rw [show 64 * r + Lib.bitLen x - 1 = 64 * r + (Lib.bitLen x - 1) by omega]
      omega

/-! ### less -/
theorem less_l0 {a b : List Int} (ha : okl B64 a) (hb : okl B64 b) (hlen : a.length = b.length) (hl : a.length < 1000000000000000) : ∀ (n k : Nat), n ≤ a.length → n + 1 ≤ k → round_less.l0 k a b ((n : Int) - 1) = some (decide (nv B64 (a.take n) < nv B64 (b.take n)))
  | 0, k + 1, hn, hk => by rw [round_less.l0, if_neg (by omega), decide_eq_false (by simp [nv])]
  | n + 1, k + 1, hn, hk => by
    obtain ⟨x, hx, hxB, hxn⟩ := dig_at ha b64_pos n
    obtain ⟨y, hy, hyB, hyn⟩ := dig_at hb b64_pos n
    obtain ⟨c1, c2, c3⟩ := cmp_step b64_pos ha hb n hxn hyn (by omega) (by omega)
    rw [round_less.l0, show ((n + 1 : Nat) : Int) - 1 = (n : Int) by omega, if_pos (by omega), if_pos (by omega), if_pos (by omega), if_pos (by omega), hx, hy]
    by_cases h1 : x = y
    · rw [if_pos (by omega), wrapi_id (n := (n : Int) - 1) (by omega) (by omega), less_l0 ha hb hlen hl n k (by omega) (by omega)]
      refine congrArg some (decide_eq_decide.2 ?_)
      rw [← cmpn_neg, ← cmpn_neg, c3 h1]
    · rw [if_neg (by omega)]
      refine congrArg some (decide_eq_decide.2 ?_)
      constructor
      · intro h; exact c1 (by omega)
      · intro h
        by_cases g : x < y
        · omega
        · have := c2 (by omega); omega
theorem less_ok {a b : List Int} (ha : okl B64 a) (hb : okl B64 b) (hlen : a.length = b.length) (hl : a.length ≤ 1000) {k : Nat} (hk : 1001 ≤ k) : round_less.f k a b = some (decide (nv B64 a < nv B64 b)) := by
  have h := less_l0 ha hb hlen (by omega) a.length k (Nat.le_refl _) (by omega)
  rw [List.take_of_length_le (Nat.le_refl _), List.take_of_length_le (by omega)] at h
  unfold round_less.f
  rw [wrapi_id (by omega) (by omega)]
  exact h
/-! ### zero -/
theorem zero_l0 {a : List Int} (ha : okl B64 a) (hl : a.length ≤ 1000) : ∀ (n k i : Nat), i + n = a.length → n + 1 ≤ k → nv B64 (a.take i) = 0 → round_zero.l0 k a (a.length : Int) (i : Int) = some (decide (nv B64 a = 0))
  | 0, k + 1, i, hi, hk, hv => by
    rw [List.take_of_length_le (by omega)] at hv
    rw [round_zero.l0, if_neg (by omega), decide_eq_true hv]
  | n + 1, k + 1, i, hi, hk, hv => by
    obtain ⟨x, hx, hxB, hxn⟩ := dig_at ha b64_pos i
    have hs := nv_take_step B64 a i
    rw [hxn, hv, Nat.zero_add] at hs
    rw [round_zero.l0, if_pos (by omega), if_pos (by omega), if_pos (by omega), hx]
    by_cases h0 : x = 0
    · subst h0
      rw [if_pos (by rfl), wrapi_id (n := (i : Int) + 1) (by omega) (by omega), show (i : Int) + 1 = ((i + 1 : Nat) : Int) by omega]
      exact zero_l0 ha hl n k (i + 1) (by omega) (by omega) (by rw [hs, Nat.mul_zero])
    · have hp : 0 < B64 ^ i := Nat.pow_pos b64_pos
      have htd := nv_take_drop B64 a (i + 1) (by omega)
      have h1 : 0 < B64 ^ i * x := Nat.mul_pos hp (by omega)
      have : nv B64 a ≠ 0 := by omega
      rw [if_neg (by omega), decide_eq_false this]
theorem zero_ok {a : List Int} (ha : okl B64 a) (hl : a.length ≤ 1000) {k : Nat} (hk : 1001 ≤ k) : round_zero.f k a = some (decide (nv B64 a = 0)) := by
  unfold round_zero.f
  exact zero_l0 ha hl a.length k 0 (by omega) (by omega) rfl
/-! ### same -/
theorem same_row {a : List Int} {m : Nat} (h : a.length ≤ m) : a.take (min a.length (List.replicate m (0 : Int)).length) ++ (List.replicate m (0 : Int)).drop (min a.length (List.replicate m (0 : Int)).length) = a ++ List.replicate (m - a.length) 0 := by
  rw [List.length_replicate, Nat.min_eq_left h, List.take_of_length_le (Nat.le_refl _), List.drop_replicate]
theorem mx_nat (a b : Nat) : mx (a : Int) (b : Int) = ((max a b : Nat) : Int) := by unfold mx; split <;> omega
theorem psame_ok {a b : List Int} (ha : okl B64 a) (hb : okl B64 b) (la : a.length ≤ 900) (lb : b.length ≤ 900) :
    ∃ x y, round_same.f a b = some (x, y) ∧ okl B64 x ∧ okl B64 y ∧ x.length = max a.length b.length + 1 ∧ y.length = max a.length b.length + 1 ∧ nv B64 x = nv B64 a ∧ nv B64 y = nv B64 b := by
  have hw : wrap64 ((mx (a.length : Int) (b.length : Int)) + 1) = ((max a.length b.length + 1 : Nat) : Int) := by
    rw [mx_nat, wrapi_id (by omega) (by omega)]; omega
  refine ⟨a ++ List.replicate (max a.length b.length + 1 - a.length) 0, b ++ List.replicate (max a.length b.length + 1 - b.length) 0, ?_, okl_append.2 ⟨ha, okl_zeros _ _ b64_pos⟩, okl_append.2 ⟨hb, okl_zeros _ _ b64_pos⟩, by rw [List.length_append, List.length_replicate]; omega, by rw [List.length_append, List.length_replicate]; omega, by rw [nv_append, nv_zeros, Nat.mul_zero, Nat.add_zero], by rw [nv_append, nv_zeros, Nat.mul_zero, Nat.add_zero]⟩
  unfold round_same.f
  rw [hw, if_pos (by omega), Int.toNat_natCast, if_pos (by omega), bind_eqh rfl, bind_eqh rfl, same_row (by omega), same_row (by omega)]
/-! ### off -/
theorem off_l0 {a b : List Int} (ha : okl B64 a) (hb : okl B64 b) (hlen : a.length = b.length) (hl : a.length ≤ 1000) (hge : nv B64 b ≤ nv B64 a) : ∀ (n k i c : Nat) (cur : List Int), i + n = a.length → n + 1 ≤ k → okl B64 cur → cur.length = a.length → c ≤ 1 → cur.drop i = a.drop i →
    nv B64 (cur.take i) + nv B64 (b.take i) = nv B64 (a.take i) + B64 ^ i * c →
    ∃ r, round_off.l0 k cur b (c : Int) (a.length : Int) (i : Int) = some r ∧ okl B64 r ∧ r.length = a.length ∧ nv B64 r + nv B64 b = nv B64 a := by
  intro n
  induction n with
  | zero =>
    intro k i c cur hi hk ho hcl hc hd hv
    obtain ⟨k, rfl⟩ : ∃ q, k = q + 1 := ⟨k - 1, by omega⟩
    refine ⟨cur, by rw [round_off.l0, if_neg (by omega)], ho, hcl, ?_⟩
    have hlt := nv_lt b64_pos ho
    rw [List.take_of_length_le (by omega), List.take_of_length_le (by omega), List.take_of_length_le (by omega), show i = a.length by omega] at hv
    rw [hcl] at hlt
    rcases (by omega : c = 0 ∨ c = 1) with rfl | rfl
    · omega
    · rw [Nat.mul_one] at hv; omega
  | succ n ih =>
    intro k i c cur hi hk ho hcl hc hd hv
    obtain ⟨k, rfl⟩ : ∃ q, k = q + 1 := ⟨k - 1, by omega⟩
    obtain ⟨x, hx, hxB, hxn⟩ := dig_at ha b64_pos i
    obtain ⟨y, hy, hyB, hyn⟩ := dig_at hb b64_pos i
    have hd2 := hd
    rw [drop_get (by omega : i < cur.length), drop_get (by omega : i < a.length)] at hd2
    injection hd2 with hg hd3
    have hxc : rd cur (i : Int) = (x : Int) := by rw [rd_nat, hg, ← rd_nat]; exact hx
    have hmod := Nat.mod_lt (x + B64 - y - c) b64_pos
    have hc' : (if x < y + c then 1 else 0) ≤ 1 := by split <;> omega
    have hset : okl B64 (cur.set i (((x + B64 - y - c) % B64 : Nat) : Int)) := okl_set ho i ⟨by omega, by omega⟩
    have hstep := sub_step (P := B64 ^ i) (B := B64) (x := x) (y := y) (d := (x + B64 - y - c) % B64) (w' := (if x < y + c then 1 else 0)) hv (borrow_eq hxB hyB hc)
    have hv2 : nv B64 ((cur.set i (((x + B64 - y - c) % B64 : Nat) : Int)).take (i + 1)) + nv B64 (b.take (i + 1)) = nv B64 (a.take (i + 1)) + B64 ^ (i + 1) * (if x < y + c then 1 else 0) := by
      rw [take_set_succ _ (by omega), nv_snoc, List.length_take, Nat.min_eq_left (by omega), nv_take_step, nv_take_step, hxn, hyn, Int.toNat_natCast, Nat.pow_succ]
      omega
    obtain ⟨r, r1, r2⟩ := ih k (i + 1) (if x < y + c then 1 else 0) _ (by omega) (by omega) hset (by rw [List.length_set]; exact hcl) hc' (by rw [List.drop_set_of_lt (by omega)]; exact hd3) hv2
    refine ⟨r, ?_, r2⟩
    rw [← r1, round_off.l0, if_pos (by omega), if_pos (by omega), if_pos (by omega), if_pos (by omega), hxc, hy, bind_eqh (sub64_ok hxB hyB hc), Int.toNat_natCast, wrapi_id (n := (i : Int) + 1) (by omega) (by omega)]
    rfl
theorem off_ok {a b : List Int} (ha : okl B64 a) (hb : okl B64 b) (hlen : a.length = b.length) (hl : a.length ≤ 1000) (hge : nv B64 b ≤ nv B64 a) {k : Nat} (hk : 1001 ≤ k) :
    ∃ r, round_off.f k a b = some r ∧ okl B64 r ∧ r.length = a.length ∧ nv B64 r + nv B64 b = nv B64 a := by
  unfold round_off.f
  exact off_l0 ha hb hlen hl hge a.length k 0 0 a (by omega) (by omega) ha rfl (by omega) rfl (by simp [nv])
/-! ### double -/
theorem dbl_word {x z : Nat} (hx : x < 18446744073709551616) (hz : z < 18446744073709551616) : Go.bits .or .u64 ((2 * x % 18446744073709551616 : Nat) : Int) ((z : Int) / 9223372036854775808) = ((2 * x % 18446744073709551616 + z / 9223372036854775808 : Nat) : Int) := by
  have h := or_disj (x % 9223372036854775808) (z / 9223372036854775808) 1 (by omega) (by omega)
  rw [show x % 9223372036854775808 * 2 ^ 1 = 2 * x % 18446744073709551616 by omega] at h
  rw [← h]
  congr 1
theorem double_l0 {a : List Int} (ha : okl B64 a) (hl : a.length ≤ 1000) : ∀ (j k : Nat) (cur : List Int), j ≤ a.length → j + 1 ≤ k → okl B64 cur → cur.length = a.length → cur.take j = a.take j →
    nv B64 (cur.drop j) = 2 * nv B64 (a.drop j) + (if j = 0 then 0 else (a.getD (j - 1) 0).toNat / 9223372036854775808) →
    ∃ r, round_double.l0 k cur ((j : Int) - 1) = some r ∧ okl B64 r ∧ r.length = a.length ∧ nv B64 r = 2 * nv B64 a
  | 0, k + 1, cur, hj, hk, ho, hcl, ht, hv => by
    refine ⟨cur, by rw [round_double.l0, if_neg (by omega)], ho, hcl, ?_⟩
    rw [if_pos rfl] at hv
    exact hv
  | i + 1, k + 1, cur, hj, hk, ho, hcl, ht, hv => by
    obtain ⟨x, hx, hxB, hxn⟩ := dig_at ha b64_pos i
    have hxB' : x < 18446744073709551616 := hxB
    rw [if_neg (by omega), show i + 1 - 1 = i by omega, hxn] at hv
    have ht2 := ht
    rw [take_get (by omega : i < cur.length), take_get (by omega : i < a.length)] at ht2
    obtain ⟨ht3, hg⟩ := List.append_inj' ht2 rfl
    injection hg with hg _
    have hxc : rd cur (i : Int) = (x : Int) := by rw [rd_nat, hg, ← rd_nat]; exact hx
    have hwr : IntKind.u64.wrap ((x : Int) * 2) = ((2 * x % 18446744073709551616 : Nat) : Int) := by rw [wrapu]; omega
    have hda := drop_get (by omega : i < a.length)
    have key : ∀ (v t : Nat), v = 2 * x % 18446744073709551616 + t → v < 18446744073709551616 → t = (if i = 0 then 0 else (a.getD (i - 1) 0).toNat / 9223372036854775808) →
        nv B64 ((cur.set i (v : Int)).drop i) = 2 * nv B64 (a.drop i) + (if i = 0 then 0 else (a.getD (i - 1) 0).toNat / 9223372036854775808) := by
      intro v t hvt hv64 htt
      rw [← htt, drop_get (by rw [List.length_set]; omega), getD_set_eq _ (by omega), List.drop_set_of_lt (by omega), hda, nv, nv, hv, hxn, Int.toNat_natCast, hvt]
      have hB : B64 = 18446744073709551616 := rfl
      rw [hB]
      generalize nv 18446744073709551616 (a.drop (i + 1)) = q
      omega
    rw [round_double.l0, show ((i + 1 : Nat) : Int) - 1 = (i : Int) by omega, if_pos (by omega), if_pos (by omega), if_pos (by omega), hxc, hwr, Int.toNat_natCast, bind_eqh rfl]
    by_cases hi0 : i = 0
    · subst hi0
      obtain ⟨r, r1, r2⟩ := double_l0 ha hl 0 k (cur.set 0 ((2 * x % 18446744073709551616 : Nat) : Int)) (by omega) (by omega) (okl_set ho 0 ⟨by omega, by rw [show (B64 : Int) = 18446744073709551616 from rfl]; omega⟩) (by rw [List.length_set]; exact hcl) rfl (key _ 0 (by omega) (by omega) (by rw [if_pos rfl]))
      refine ⟨r, ?_, r2⟩
      rw [if_neg (by omega), wrapi_id (by omega) (by omega)]
      exact r1
    · obtain ⟨z, hz, hzB, hzn⟩ := dig_at ha b64_pos (i - 1)
      have hzB' : z < 18446744073709551616 := hzB
      have hzc : rd (cur.set i ((2 * x % 18446744073709551616 : Nat) : Int)) ((i - 1 : Nat) : Int) = (z : Int) := by
        rw [rd_nat, getD_set_ne _ (by omega)]
        have e1 : cur.getD (i - 1) 0 = (cur.take i).getD (i - 1) 0 := by
          simp only [List.getD_eq_getElem?_getD]; rw [List.getElem?_take_of_lt (by omega)]
        have e2 : a.getD (i - 1) 0 = (a.take i).getD (i - 1) 0 := by
          simp only [List.getD_eq_getElem?_getD]; rw [List.getElem?_take_of_lt (by omega)]
        rw [e1, ht3, ← e2, ← rd_nat]; exact hz
      have hxc2 : rd (cur.set i ((2 * x % 18446744073709551616 : Nat) : Int)) (i : Int) = ((2 * x % 18446744073709551616 : Nat) : Int) := by
        rw [rd_nat, getD_set_eq _ (by omega)]
      have hw1 : wrap64 ((i : Int) - 1) = ((i - 1 : Nat) : Int) := by rw [wrapi_id (by omega) (by omega)]; omega
      have hv64 : 2 * x % 18446744073709551616 + z / 9223372036854775808 < 18446744073709551616 := by omega
      obtain ⟨r, r1, r2⟩ := double_l0 ha hl i k (cur.set i ((2 * x % 18446744073709551616 + z / 9223372036854775808 : Nat) : Int)) (by omega) (by omega) (okl_set ho i ⟨by omega, by rw [show (B64 : Int) = 18446744073709551616 from rfl]; omega⟩) (by rw [List.length_set]; exact hcl) (by rw [List.take_set_of_le (Nat.le_refl _)]; exact ht3) (key _ (z / 9223372036854775808) rfl hv64 (by rw [if_neg hi0, hzn]))
      refine ⟨r, ?_, r2⟩
      rw [if_pos (by omega), hw1, if_pos (by omega), if_pos (by omega), hxc2, hzc, dbl_word hxB' hzB', List.set_set, show ((i - 1 : Nat) : Int) = (i : Int) - 1 by omega]
      exact r1
theorem double_ok {a : List Int} (ha : okl B64 a) (hl : a.length ≤ 1000) (hr : 2 * nv B64 a < B64 ^ a.length) {k : Nat} (hk : 1001 ≤ k) :
    ∃ r, round_double.f k a = some r ∧ okl B64 r ∧ r.length = a.length ∧ nv B64 r = 2 * nv B64 a := by
  unfold round_double.f
  rw [wrapi_id (by omega) (by omega)]
  refine double_l0 ha hl a.length k a (Nat.le_refl _) (by omega) ha rfl rfl ?_
  rw [List.drop_of_length_le (Nat.le_refl _)]
  by_cases h0 : a.length = 0
  · rw [if_pos h0]
    have : a = [] := List.length_eq_zero_iff.1 h0
    subst this
    simp [nv]
  · rw [if_neg h0]
    obtain ⟨x, hx, hxB, hxn⟩ := dig_at ha b64_pos (a.length - 1)
    have htd := nv_take_drop B64 a (a.length - 1) (by omega)
    rw [drop_get (by omega), nv, hxn] at htd
    have h1 : B64 ^ (a.length - 1) * x ≤ nv B64 a := by rw [htd, Nat.mul_add]; omega
    have h2 : B64 ^ a.length = B64 ^ (a.length - 1) * B64 := by rw [← Nat.pow_succ]; congr 1; omega
    rw [h2] at hr
    have h3 : B64 ^ (a.length - 1) * (2 * x) < B64 ^ (a.length - 1) * B64 := by rw [Nat.mul_left_comm]; omega
    have h4 := Nat.lt_of_mul_lt_mul_left h3
    have h5 : 2 * x < 18446744073709551616 := h4
    rw [hxn]
    simp only [nv]
    omega
/-! ### shifted -/
theorem word_at (i n : Nat) (hi : i ≤ 1000000) (hn : n ≤ 1000000) : wrap64 ((i : Int) + wrap64 (Int.tdiv (n : Int) 64)) = ((i + n / 64 : Nat) : Int) := by
  rw [tdiv64, wrapi_id (n := ((n / 64 : Nat) : Int)) (by omega) (by omega), wrapi_id (by omega) (by omega)]; omega
theorem word_next (i : Nat) (hi : i ≤ 3000000) : wrap64 ((i : Int) + 1) = ((i + 1 : Nat) : Int) := by rw [wrapi_id (by omega) (by omega)]; omega
theorem word_left (r : Nat) (hr : r < 64) : wrap64 (64 - (r : Int)) = ((64 - r : Nat) : Int) := by rw [wrapi_id (by omega) (by omega)]; omega
set_option maxHeartbeats 1000000 in
theorem shifted_l0 {a : List Int} (ha : okl B64 a) (la : a.length ≤ 128) {n : Nat} (hn : n ≤ 10000) : ∀ (m k i : Nat) (out : List Int), i + m = a.length → m + 1 ≤ k → okl B64 out → out.length = a.length + n / 64 + 1 → (∀ q, i + n / 64 < q → out.getD q 0 = 0) → nv B64 out = 2 ^ n * nv B64 (a.take i) →
    ∃ r, round_shifted.l0 k (n : Int) out a (a.length : Int) (i : Int) = some r ∧ okl B64 r ∧ r.length = a.length + n / 64 + 1 ∧ nv B64 r = 2 ^ n * nv B64 a := by
  intro m
  induction m with
  | zero =>
    intro k i out hi hk ho hlen hz hv
    obtain ⟨k, rfl⟩ : ∃ q, k = q + 1 := ⟨k - 1, by omega⟩
    rw [List.take_of_length_le (by omega)] at hv
    exact ⟨out, by rw [round_shifted.l0, if_neg (by omega)], ho, hlen, hv⟩
  | succ m ih =>
    intro k i out hi hk ho hlen hz hv
    obtain ⟨k, rfl⟩ : ∃ q, k = q + 1 := ⟨k - 1, by omega⟩
    obtain ⟨x, hx, hxB, hxn⟩ := dig_at ha b64_pos i
    have hxB' : x < 18446744073709551616 := hxB
    obtain ⟨o, hor, hoB, hon⟩ := dig_at ho b64_pos (i + n / 64)
    have hs64 : n % 64 < 64 := Nat.mod_lt _ (by decide)
    have hsplit := pow_split64 n
    have hpow : 2 ^ (n % 64) * 2 ^ (64 - n % 64) = 18446744073709551616 := by
      rw [← Nat.pow_add, show n % 64 + (64 - n % 64) = 64 by omega]
    have hp2 : 0 < 2 ^ (n % 64) := Nat.two_pow_pos _
    have hp3 : 0 < 2 ^ (64 - n % 64) := Nat.two_pow_pos _
    have hP : 0 < B64 ^ (i + n / 64) := Nat.pow_pos b64_pos
    have hnP : 2 ^ n * B64 ^ i = B64 ^ (i + n / 64) * 2 ^ (n % 64) := by
      rw [hsplit, Nat.pow_add, Nat.mul_assoc, Nat.mul_comm (2 ^ (n % 64)), ← Nat.mul_assoc, Nat.mul_comm (B64 ^ (n / 64))]
    have hosm : o < 2 ^ (n % 64) := by
      have h1 := nv_take_drop B64 out (i + n / 64) (by omega)
      rw [drop_get (by omega), nv, hon, Nat.mul_add] at h1
      have h2 := nv_lt b64_pos (okl_take ha i)
      rw [List.length_take, Nat.min_eq_left (by omega)] at h2
      have h3 : 2 ^ n * nv B64 (a.take i) < 2 ^ n * B64 ^ i := Nat.mul_lt_mul_of_pos_left h2 (Nat.two_pow_pos _)
      have h4 : B64 ^ (i + n / 64) * o < B64 ^ (i + n / 64) * 2 ^ (n % 64) := by omega
      exact Nat.lt_of_mul_lt_mul_left h4
    have hlo : x * 2 ^ (n % 64) % 18446744073709551616 = x % 2 ^ (64 - n % 64) * 2 ^ (n % 64) := by
      rw [← hpow, Nat.mul_comm (2 ^ (n % 64)) (2 ^ (64 - n % 64)), Nat.mul_mod_mul_right]
    have hhi : x * 2 ^ (n % 64) / 18446744073709551616 = x / 2 ^ (64 - n % 64) := by
      rw [← hpow, Nat.mul_comm (2 ^ (n % 64)) (2 ^ (64 - n % 64)), Nat.mul_div_mul_right _ _ hp2]
    have hlo2 : x % 2 ^ (64 - n % 64) * 2 ^ (n % 64) + o < 18446744073709551616 := by
      have h1 : x % 2 ^ (64 - n % 64) + 1 ≤ 2 ^ (64 - n % 64) := Nat.mod_lt _ hp3
      have h2 := Nat.mul_le_mul_right (2 ^ (n % 64)) h1
      rw [Nat.add_mul, Nat.one_mul, Nat.mul_comm (2 ^ (64 - n % 64)), hpow] at h2
      omega
    have hor2 := or_disj' (x % 2 ^ (64 - n % 64)) o (n % 64) hosm hlo2
    have hdm := Nat.div_add_mod (x * 2 ^ (n % 64)) 18446744073709551616
    rw [hhi, hlo] at hdm
    have hnv1 := nv_set B64 (l := out) (i := i + n / 64) (((x % 2 ^ (64 - n % 64) * 2 ^ (n % 64) + o : Nat) : Int)) (by omega)
    rw [hon, Int.toNat_natCast, Nat.mul_add] at hnv1
    have hstep := nv_take_step B64 a i
    rw [hxn] at hstep
    have hgoal : 2 ^ n * nv B64 (a.take (i + 1)) = nv B64 out + B64 ^ (i + n / 64) * (x % 2 ^ (64 - n % 64) * 2 ^ (n % 64)) + B64 ^ (i + n / 64) * (18446744073709551616 * (x / 2 ^ (64 - n % 64))) := by
      rw [hstep, Nat.mul_add, hv, ← Nat.mul_assoc (2 ^ n), hnP, Nat.mul_assoc (B64 ^ (i + n / 64)), Nat.mul_comm (2 ^ (n % 64)) x, ← hdm, Nat.mul_add]
      omega
    have hok1 : okl B64 (out.set (i + n / 64) ((x % 2 ^ (64 - n % 64) * 2 ^ (n % 64) + o : Nat) : Int)) := okl_set ho _ ⟨by omega, by rw [show (B64 : Int) = 18446744073709551616 from rfl]; omega⟩
    rw [round_shifted.l0, if_pos (by omega), if_pos (by omega), if_pos (by omega), word_at i n (by omega) (by omega), if_pos (by omega), if_pos (by omega), tmod64, wrapu_id (n := ((n % 64 : Nat) : Int)) (by omega) (by omega), if_pos (by omega), Int.toNat_natCast, hor, hx, shl_u x (n % 64) (by omega), hlo, hor2, bind_eqh rfl, word_next (i + n / 64) (by omega), word_next i (by omega)]
    by_cases hs0 : n % 64 = 0
    · rw [if_neg (by omega)]
      have hhi0 : x / 2 ^ (64 - n % 64) = 0 := by
        rw [hs0]; exact Nat.div_eq_of_lt hxB'
      simp only [hhi0, Nat.mul_zero, Nat.add_zero] at hgoal
      refine ih k (i + 1) _ (by omega) (by omega) hok1 (by rw [List.length_set]; exact hlen) (fun q hq => by rw [getD_set_ne _ (by omega)]; exact hz q (by omega)) ?_
      omega
    · have hhi64 : x / 2 ^ (64 - n % 64) < 18446744073709551616 := Nat.lt_of_le_of_lt (Nat.div_le_self _ _) hxB'
      rw [if_pos (by omega), word_left (n % 64) hs64, wrapu_id (n := ((64 - n % 64 : Nat) : Int)) (by omega) (by omega), if_pos (by omega), if_pos (by omega), if_pos (by omega), Int.toNat_natCast, shr_u x (64 - n % 64) (by omega)]
      have hnv2 := nv_set B64 (l := out.set (i + n / 64) ((x % 2 ^ (64 - n % 64) * 2 ^ (n % 64) + o : Nat) : Int)) (i := i + n / 64 + 1) ((x / 2 ^ (64 - n % 64) : Nat) : Int) (by rw [List.length_set]; omega)
      rw [getD_set_ne _ (by omega), hz _ (by omega), Int.toNat_natCast, Nat.pow_succ, Nat.mul_assoc, show (0 : Int).toNat = 0 from rfl, Nat.mul_zero, Nat.mul_assoc] at hnv2
      rw [show B64 * (x / 2 ^ (64 - n % 64)) = 18446744073709551616 * (x / 2 ^ (64 - n % 64)) from rfl] at hnv2
      refine ih k (i + 1) _ (by omega) (by omega) (okl_set hok1 _ ⟨by omega, by rw [show (B64 : Int) = 18446744073709551616 from rfl]; omega⟩) (by rw [List.length_set, List.length_set]; exact hlen) (fun q hq => by rw [getD_set_ne _ (by omega), getD_set_ne _ (by omega)]; exact hz q (by omega)) ?_
      omega
theorem shifted_ok {a : List Int} (ha : okl B64 a) (la : a.length ≤ 128) {n : Nat} (hn : n ≤ 10000) {k : Nat} (hk : 200 ≤ k) :
    ∃ r, round_shifted.f k a (n : Int) = some r ∧ okl B64 r ∧ r.length = a.length + n / 64 + 1 ∧ nv B64 r = 2 ^ n * nv B64 a := by
  have hw : wrap64 ((wrap64 ((a.length : Int) + (wrap64 (Int.tdiv (n : Int) 64)))) + 1) = ((a.length + n / 64 + 1 : Nat) : Int) := by
    rw [word_at a.length n (by omega) (by omega), word_next _ (by omega)]
  unfold round_shifted.f
  rw [hw, if_pos (by omega), Int.toNat_natCast, if_pos (by omega)]
  exact shifted_l0 ha la hn a.length k 0 _ (by omega) (by omega) (okl_zeros _ _ b64_pos) (by simp) (fun q hq => by
    simp only [List.getD_eq_getElem?_getD, List.getElem?_replicate]
    split <;> rfl) (by rw [nv_zeros]; simp [nv])
end Go.Proofs.YtbjmfocjigikgaaDoor.XrH
end
section
namespace Go.Proofs.YtbjmfocjigikgaaDoor.XrB
open Go.RowKit Go.Proofs.YtbjmfocjigikgaaDoor.Xr Go.Proofs.YtbjmfocjigikgaaDoor.A Go.Proofs.YtbjmfocjigikgaaDoor.L Go.Proofs.YtbjmfocjigikgaaDoor.Q Go.Proofs.YtbjmfocjigikgaaDoor.XrH Go.Proofs.YtbjmfocjigikgaaDoorW.PrintWords Go.Proofs.YtbjmfocjigikgaaDoorW.PrintLast Go.Proofs.YtbjmfocjigikgaaDoorW.PrintMore
set_option linter.unusedSimpArgs false
set_option linter.unusedVariables false
/-- Rounding, by the quotient of the halves and what is left. -/
theorem rq_steps {B r q : Nat} (hB : 0 < B) (hr : r < 2 * B) : rq (r + 2 * B * q) (4 * B) false = if q % 2 = 1 ∧ (r ≠ 0 ∨ q / 2 % 2 = 1) then q / 2 + 1 else q / 2 := by
  have hq := Nat.div_add_mod q 2
  have e0 : r + 2 * B * q = 4 * B * (q / 2) + (2 * B * (q % 2) + r) := by
    generalize q % 2 = t at *
    generalize q / 2 = u at *
    subst hq
    rw [Nat.mul_add, ← Nat.mul_assoc, show 2 * B * 2 = 4 * B by omega]
    omega
  have hlt : 2 * B * (q % 2) + r < 4 * B := by
    rcases Nat.mod_two_eq_zero_or_one q with h | h <;> rw [h] <;> omega
  have e1 : (r + 2 * B * q) / (4 * B) = q / 2 := by
    rw [e0, Nat.mul_add_div (by omega), Nat.div_eq_of_lt hlt, Nat.add_zero]
  have e2 : (r + 2 * B * q) % (4 * B) = 2 * B * (q % 2) + r := by
    rw [e0, Nat.mul_add_mod, Nat.mod_eq_of_lt hlt]
  unfold rq
  rw [e1, e2]
  rcases Nat.mod_two_eq_zero_or_one q with h | h <;> rw [h]
  · rw [if_neg (by omega), if_neg (by omega)]
  · rw [Nat.mul_one]
    by_cases h0 : r = 0
    · subst h0
      by_cases g : q / 2 % 2 = 1
      · rw [if_pos (.inr ⟨by omega, .inr g⟩), if_pos ⟨rfl, .inr g⟩]
      · rw [if_neg (by rintro (c | ⟨_, c | c⟩); omega; simp at c; exact g c), if_neg (by rintro ⟨_, c | c⟩; exact c rfl; exact g c)]
    · rw [if_pos (.inl (by omega)), if_pos ⟨rfl, .inl h0⟩]
/-- Far below the least: nothing. -/
theorem man_zero {F n d : Nat} {L e exp : Int} (hd : 0 < d) (he : fb n d e) (h : e + exp < lst F L e exp - 1) (more : Bool) : man n d exp (lst F L e exp) more = 0 := by
  generalize lst F L e exp = last at *
  unfold man
  refine rq_small more ?_
  have a1 : n * pd e * pu (exp - last) < 2 * (d * pu e) * pu (exp - last) := Nat.mul_lt_mul_of_pos_right he.2 (pu_pos _)
  have a2 : 4 * (pu e * pu (exp - last)) ≤ pd (exp - last) * pd e := by
    unfold pu pd
    rw [← Nat.pow_add, ← Nat.pow_add, show (4 : Nat) = 2 ^ 2 from rfl, ← Nat.pow_add]
    exact Nat.pow_le_pow_right (by decide) (by omega)
  have a3 := Nat.mul_le_mul_left d a2
  have a4 : 2 * (n * pu (exp - last)) * pd e < d * pd (exp - last) * pd e := by
    have b1 : 2 * (n * pu (exp - last)) * pd e = 2 * (n * pd e * pu (exp - last)) := by rw [Nat.mul_assoc 2, Nat.mul_assoc n, Nat.mul_assoc n, Nat.mul_comm (pu _)]
    have b2 : 2 * (2 * (d * pu e) * pu (exp - last)) = d * (4 * (pu e * pu (exp - last))) := by
      rw [Nat.mul_assoc 2 (d * pu e), ← Nat.mul_assoc 2 2, Nat.mul_left_comm d 4, ← Nat.mul_assoc d]
    have b3 : d * (pd (exp - last) * pd e) = d * pd (exp - last) * pd e := (Nat.mul_assoc _ _ _).symm
    omega
  exact Nat.lt_of_mul_lt_mul_right a4
/-- Above the least: something. -/
theorem man_pos {F n d : Nat} {L e exp : Int} (hd : 0 < d) (he : fb n d e) (h : lst F L e exp = e + exp - F) (more : Bool) : 0 < man n d exp (lst F L e exp) more := by
  rw [h]
  unfold man rq
  have hpos : 0 < n * pu (exp - (e + exp - F)) / (d * pd (exp - (e + exp - F))) := by
    refine Nat.div_pos ?_ (Nat.mul_pos hd (pd_pos _))
    generalize hs : exp - (e + exp - F) = s
    have a1 : d * pu e * pu s ≤ n * pd e * pu s := Nat.mul_le_mul_right _ he.1
    have a2 : pd s * pd e ≤ pu e * pu s := by
      unfold pu pd
      rw [← Nat.pow_add, ← Nat.pow_add]
      exact Nat.pow_le_pow_right (by decide) (by omega)
    have a3 := Nat.mul_le_mul_left d a2
    have a4 : d * pd s * pd e ≤ n * pu s * pd e := by
      have b1 : d * pd s * pd e = d * (pd s * pd e) := Nat.mul_assoc _ _ _
      have b2 : d * pu e * pu s = d * (pu e * pu s) := Nat.mul_assoc _ _ _
      have b3 : n * pd e * pu s = n * pu s * pd e := by rw [Nat.mul_assoc, Nat.mul_assoc, Nat.mul_comm (pd e)]
      omega
    exact Nat.le_of_mul_le_mul_right a4 (pd_pos e)
  split <;> omega
/-- The long division: m bits more. -/
theorem div_l1 (size : Int) (neg : Bool) (topv unit : Int) (hu0 : -10000000000000 ≤ unit) (hu1 : unit ≤ 10000000000000) {b : List Int} (hb : okl B64 b) (lb : b.length ≤ 1000) (hB0 : 0 < nv B64 b) (hB : 2 * nv B64 b < B64 ^ b.length) :
    ∀ (m k t mant : Nat) (a : List Int), m + 2000 ≤ k → okl B64 a → a.length = b.length → nv B64 a < 2 * nv B64 b → mant + 1 ≤ 2 ^ t → t + m ≤ 60 →
    ∃ (mant' k' : Nat) (a' : List Int), 2000 ≤ k' ∧ k ≤ k' + m ∧ okl B64 a' ∧ a'.length = b.length ∧ nv B64 a' < 2 * nv B64 b ∧ mant' + 1 ≤ 2 ^ (t + m) ∧ nv B64 a' + 2 * nv B64 b * mant' = 2 ^ m * (nv B64 a + 2 * nv B64 b * mant) ∧
      round_Ratio.l1 k size neg topv a b unit (mant : Int) (unit + m - 1) = round_Ratio.l1 k' size neg topv a' b unit (mant' : Int) (unit - 1) := by
  intro m
  induction m with
  | zero =>
    intro k t mant a hk ha hla hlt hm ht
    exact ⟨mant, k, a, by omega, by omega, ha, hla, hlt, hm, by rw [Nat.pow_zero, Nat.one_mul], by rw [show unit + ((0 : Nat) : Int) - 1 = unit - 1 by omega]⟩
  | succ m ih =>
    intro k t mant a hk ha hla hlt hm ht
    obtain ⟨k, rfl⟩ : ∃ q, k = q + 1 := ⟨k - 1, by omega⟩
    have hp60 : 2 ^ (t + 1) ≤ 2 ^ 60 := Nat.pow_le_pow_right (by decide) (by omega)
    have hp1 : 2 ^ (t + 1) = 2 * 2 ^ t := by rw [Nat.pow_succ, Nat.mul_comm]
    have hless := less_ok ha hb hla (by omega) (k := k) (by omega)
    have hat : wrap64 (unit + ((m + 1 : Nat) : Int) - 1 - 1) = unit + (m : Int) - 1 := by rw [wrapi_id (by omega) (by omega)]; omega
    have hwm : IntKind.u64.wrap ((mant : Int) * 2) = ((mant * 2 ^ 1 : Nat) : Int) := by rw [wrapu_id (by omega) (by omega)]; omega
    have hor := or_disj mant 1 1 (by decide) (by omega)
    rw [show ((1 : Nat) : Int) = 1 from rfl] at hor
    rw [round_Ratio.l1, if_pos (by omega), bind_eq hless]
    by_cases hl : nv B64 a < nv B64 b
    · obtain ⟨a2, d1, d2, d3, d4⟩ := double_ok ha (by omega) (by rw [hla]; omega) (k := k) (by omega)
      rw [if_pos (decide_eq_true hl), bind_eq d1, hwm, hat]
      obtain ⟨m', k', a', x1, x2, x3, x4, x5, x6, x7, x8⟩ := ih k (t + 1) (mant * 2 ^ 1) a2 (by omega) d2 (by omega) (by omega) (by omega) (by omega)
      refine ⟨m', k', a', x1, by omega, x3, x4, x5, by rw [show t + (m + 1) = t + 1 + m by omega]; exact x6, ?_, x8⟩
      rw [x7, d4, Nat.pow_succ, Nat.pow_succ, Nat.mul_assoc (2 ^ m)]
      congr 1
      rw [Nat.mul_add, Nat.pow_zero, Nat.one_mul, ← Nat.mul_assoc, Nat.mul_comm 2 (2 * nv B64 b * mant)]
    · obtain ⟨a1, o1, o2, o3, o4⟩ := off_ok ha hb hla (by omega) (by omega) (k := k) (by omega)
      obtain ⟨a2, d1, d2, d3, d4⟩ := double_ok o2 (by omega) (by rw [o3, hla]; omega) (k := k) (by omega)
      rw [if_neg (by simpa using hl), bind_eq o1, bind_eq d1, hwm, hor, hat]
      obtain ⟨m', k', a', x1, x2, x3, x4, x5, x6, x7, x8⟩ := ih k (t + 1) (mant * 2 ^ 1 + 1) a2 (by omega) d2 (by omega) (by omega) (by omega) (by omega)
      refine ⟨m', k', a', x1, by omega, x3, x4, x5, by rw [show t + (m + 1) = t + 1 + m by omega]; exact x6, ?_, x8⟩
      rw [x7, d4, show 2 ^ (m + 1) = 2 ^ m * 2 from Nat.pow_succ _ _, Nat.mul_assoc (2 ^ m)]
      congr 1
      have e1 : 2 * nv B64 b * (mant * 2 ^ 1 + 1) = 2 * (2 * nv B64 b * mant) + 2 * nv B64 b := by
        rw [Nat.mul_add, Nat.mul_one, Nat.pow_one, ← Nat.mul_assoc, Nat.mul_comm (2 * nv B64 b * mant)]
      rw [e1]
      generalize 2 * nv B64 b * mant = z
      omega
theorem half_eq {m : Nat} (hm : m < 18446744073709551616) : (Go.bits .and .u64 (m : Int) 1 == 1) = decide (m % 2 = 1) := by
  rw [and_one hm]
  by_cases c : m % 2 = 1
  · rw [decide_eq_true c, c]; rfl
  · rw [decide_eq_false c, show m % 2 = 0 by omega]; rfl
/-- From the loop's begin on. -/
theorem ratio_j1 {size F E S : Nat} {L : Int} {I : Nat} (h : IsFmt size F E S L I) (neg : Bool) {n d : Nat} (hd0 : 0 < d) {e : Int} (he : fb n d e) (heb : -10000 ≤ e) (heb2 : e ≤ 10000) (exp : Int) (he0 : -1099511627776 ≤ exp) (he1 : exp ≤ 1099511627776)
    {a b : List Int} (ha : okl B64 a) (hb : okl B64 b) (hla : a.length = b.length) (lb : b.length ≤ 1000) (hB0 : 0 < nv B64 b) (hB : 2 * nv B64 b < B64 ^ b.length) (hlt : nv B64 a < 2 * nv B64 b) (hR : nv B64 a * d * pu e = n * nv B64 b * pd e)
    (o : Option Nat) (ho : 0 < man n d exp (lst F L e exp) false → ∀ (neg : Bool) (k : Nat), bits_Pack.f (k + 200) neg 2 ((man n d exp (lst F L e exp) false : Nat) : Int) (lst F L e exp) size = some (pv S neg o)) {k : Nat} (hk : 3000 ≤ k) :
    round_Ratio.j1 k size neg exp ((F : Int) + 1) L e a b = some ((ans S I neg (man n d exp (lst F L e exp) false) o).1, errv (ans S I neg (man n d exp (lst F L e exp) false) o).2) := by
  obtain ⟨hF0, hF, hS, hFS, hL, _, hF23⟩ := fmt_small h
  have hF52 : F ≤ 52 := by rcases h with ⟨_, rfl, _⟩ | ⟨_, rfl, _⟩ <;> omega
  have hz := man_zero (F := F) (L := L) (exp := exp) hd0 he
  have hlst : lst F L e exp = max (e + exp - F) L := rfl
  obtain ⟨k, rfl⟩ : ∃ q, k = q + 2 := ⟨k - 2, by omega⟩
  have hj2 : round_Ratio.j1 (k + 2) size neg exp ((F : Int) + 1) L e a b = round_Ratio.l1 k size neg (e + exp) a b (lst F L e exp - 1) 0 (e + exp) := by
    rw [round_Ratio.j1, wrapi_id (n := e + exp) (by omega) (by omega), wrapi_id (n := e + exp - ((F : Int) + 1)) (by omega) (by omega), wrapi_id (n := L - 1) (by omega) (by omega), mx_int]
    by_cases h2 : e + exp > 2000
    · rw [if_pos h2, round_Ratio.j2, show e + exp - ((F : Int) + 1) = lst F L e exp - 1 by omega]
    · rw [if_neg h2, round_Ratio.j2, show max (e + exp - ((F : Int) + 1)) (L - 1) = lst F L e exp - 1 by omega]
  rw [hj2]
  generalize hlast : lst F L e exp = last at *
  have hw : wrap64 (last - 1 + 1) = last := by rw [wrapi_id (by omega) (by omega)]; omega
  by_cases htop : e + exp < last - 1
  · have hm0 := hz htop false
    obtain ⟨k, rfl⟩ : ∃ q, k = q + 1 := ⟨k - 1, by omega⟩
    rw [hm0]
    have hp := pack_ok h neg (mant := 0) (Q := 0) (by decide) last (decide (0 % 2 = 1)) true (by simp) o (fun c => absurd c (by decide)) (k - 203)
    rw [show k - 203 + 203 = k by omega, ← half_eq (by decide), Int.ofNat_zero] at hp
    rw [round_Ratio.l1, if_neg (by omega), if_pos htop, show (0 : Int) / 2 = 0 from rfl, hw, bind_eq hp]
  · obtain ⟨N, hN⟩ : ∃ N : Nat, e + exp - last + 2 = (N : Int) := ⟨(e + exp - last + 2).toNat, by omega⟩
    have hN54 : N ≤ 54 := by omega
    obtain ⟨m', k', a', x1, x2, x3, x4, x5, x6, x7, x8⟩ := div_l1 size neg (e + exp) (last - 1) (by omega) (by omega) hb lb hB0 hB N k 0 0 a (by omega) ha hla hlt (by decide) (by omega)
    rw [show last - 1 + (N : Int) - 1 = e + exp by omega, Int.ofNat_zero] at x8
    rw [x8]
    rw [Nat.mul_zero, Nat.add_zero, Nat.zero_add] at *
    have hm54 : 2 ^ N ≤ 2 ^ 54 := Nat.pow_le_pow_right (by decide) hN54
    have hman : man n d exp last false = rq (nv B64 a' + 2 * nv B64 b * m') (4 * nv B64 b) false := by
      rw [x7]
      unfold man
      refine rq_cross (Nat.mul_pos hd0 (pd_pos _)) (by omega) ?_ false
      have key : n * pu (exp - last) * (4 * nv B64 b) * pu e = 2 ^ N * nv B64 a * (d * pd (exp - last)) * pu e := by
        have b1 : 2 ^ N * nv B64 a * (d * pd (exp - last)) * pu e = nv B64 a * d * pu e * (2 ^ N * pd (exp - last)) := by
          generalize 2 ^ N = p1; generalize nv B64 a = p2; generalize pd (exp - last) = p3; generalize pu e = p4
          rw [Nat.mul_assoc p1, Nat.mul_assoc p1, Nat.mul_assoc (p2 * d), Nat.mul_left_comm p4, Nat.mul_left_comm (p2 * d) p1]
          congr 1
          rw [← Nat.mul_assoc p2, Nat.mul_assoc (p2 * d), Nat.mul_comm p3]
        have b2 : n * pu (exp - last) * (4 * nv B64 b) * pu e = n * nv B64 b * (4 * (pu (exp - last) * pu e)) := by
          generalize pu (exp - last) = p1; generalize nv B64 b = p2; generalize pu e = p3
          ac_rfl
        have b3 : 4 * (pu (exp - last) * pu e) = pd e * (2 ^ N * pd (exp - last)) := by
          unfold pu pd
          rw [show (4 : Nat) = 2 ^ 2 from rfl]
          simp only [← Nat.pow_add]
          congr 1; omega
        rw [b1, b2, hR, b3, Nat.mul_assoc (n * nv B64 b)]
      exact Nat.eq_of_mul_eq_mul_right (pu_pos e) key
    have hsteps := rq_steps hB0 x5 (q := m')
    rw [← hman] at hsteps
    obtain ⟨k', rfl⟩ : ∃ q, k' = q + 1 := ⟨k' - 1, by omega⟩
    have hzero := zero_ok x3 (by omega) (k := k') (by omega)
    have hp := pack_ok h neg (mant := m' / 2) (Q := man n d exp last false) (by omega) last (decide (m' % 2 = 1)) (!decide (nv B64 a' = 0)) (by
      rw [hsteps]
      by_cases g : m' % 2 = 1 ∧ (nv B64 a' ≠ 0 ∨ m' / 2 % 2 = 1)
      · rw [if_pos g, if_pos ⟨decide_eq_true g.1, by
          rcases g.2 with g2 | g2
          · left; simpa using g2
          · exact .inr g2⟩]
      · rw [if_neg g, if_neg (by
          rintro ⟨g1, g2⟩
          refine g ⟨of_decide_eq_true g1, ?_⟩
          rcases g2 with g2 | g2
          · left; simpa using g2
          · exact .inr g2)]) o ho (k' - 203)
    rw [show k' - 203 + 203 = k' by omega, ← half_eq (by omega)] at hp
    rw [round_Ratio.l1, if_neg (by omega), if_neg (by omega), bind_eq hzero, show (m' : Int) / 2 = ((m' / 2 : Nat) : Int) by omega, hw, bind_eq hp]
/-- The program's Ratio, on good rows. -/
theorem Ratio_ok {size F E S : Nat} {L : Int} {I : Nat} (h : IsFmt size F E S L I) (neg : Bool) {n d : List Int} (hn : okl B64 n) (hd : okl B64 d) (vn : vnum n = 0) (vd : vnum d = 0) (n0 : 0 < nv B64 n) (d0 : 0 < nv B64 d) (exp : Int) (he0 : -1099511627776 ≤ exp) (he1 : exp ≤ 1099511627776) :
    ∃ e, fb (nv B64 n) (nv B64 d) e ∧ -10000 ≤ e ∧ e ≤ 10000 ∧ ∀ (o : Option Nat), (0 < man (nv B64 n) (nv B64 d) exp (lst F L e exp) false → ∀ (neg : Bool) (k : Nat), bits_Pack.f (k + 200) neg 2 ((man (nv B64 n) (nv B64 d) exp (lst F L e exp) false : Nat) : Int) (lst F L e exp) size = some (pv S neg o)) → ∀ k, 10000 ≤ k →
    round_Ratio.f k size neg n d exp = some ((ans S I neg (man (nv B64 n) (nv B64 d) exp (lst F L e exp) false) o).1, errv (ans S I neg (man (nv B64 n) (nv B64 d) exp (lst F L e exp) false) o).2) := by
  obtain ⟨ln, tn⟩ := (vnum_zero n).1 vn
  obtain ⟨ld, td⟩ := (vnum_zero d).1 vd
  obtain ⟨Ln, x1, x2⟩ := Bits_ok hn vn
  obtain ⟨Ld, y1, y2⟩ := Bits_ok hd vd
  have hnl : n.length ≠ 0 := fun c => by rw [List.length_eq_zero_iff.1 c] at n0; simp [nv] at n0
  have hdl : d.length ≠ 0 := fun c => by rw [List.length_eq_zero_iff.1 c] at d0; simp [nv] at d0
  have bnd : ∀ {a : List Int} {La : Nat}, okl B64 a → a.length ≤ 128 → bl (nv B64 a) La → La ≤ 8192 := by
    intro a La ha hl hb
    obtain ⟨P, hP⟩ : ∃ P : Nat, P = 8192 := ⟨_, rfl⟩
    rw [← hP]
    have h1 := nv_lt b64_pos ha
    have h2 : B64 ^ a.length ≤ 2 ^ P := by
      have e1 : B64 = 2 ^ 64 := rfl
      rw [e1, ← Nat.pow_mul]
      exact Nat.pow_le_pow_right (by decide) (by omega)
    rcases Nat.lt_or_ge P La with c | c
    · exfalso
      have h3 : 2 ^ P ≤ 2 ^ (La - 1) := Nat.pow_le_pow_right (by decide) (by omega)
      rcases Nat.eq_zero_or_pos (nv B64 a) with g | g
      · have := hb.2.2 g; omega
      · have h4 := (hb.2.1 g).2
        exact absurd (Nat.lt_of_le_of_lt h4 (Nat.lt_of_lt_of_le h1 h2)) (Nat.not_lt.2 h3)
    · exact c
  have hLn := bnd hn ln x2
  have hLd := bnd hd ld y2
  have hfb := fb_of n0 d0 x2 y2
  refine ⟨_, hfb, by split <;> omega, by split <;> omega, fun o ho k hk => ?_⟩
  have hVn : nat_Valid.f n = some none := by rw [Valid_ok (by omega), vn]; rfl
  have hVd : nat_Valid.f d = some none := by rw [Valid_ok (by omega), vd]; rfl
  have rdn : rd_L1 ([n, d] : List (List Int)) 0 = n := rfl
  have rdd : rd_L1 ([n, d] : List (List Int)) 1 = d := rfl
  have w1 : wrap64 (0 + 1) = 1 := by unfold wrap64; omega
  have w2 : wrap64 (1 + 1) = 2 := by unfold wrap64; omega
  have wt : wrap64 ((Ln : Int) - (Ld : Int)) = (Ln : Int) - (Ld : Int) := wrapi_id (by omega) (by omega)
  have wt2 : wrap64 (-((Ln : Int) - (Ld : Int))) = -((Ln : Int) - (Ld : Int)) := wrapi_id (by omega) (by omega)
  have wt3 : wrap64 ((Ln : Int) - (Ld : Int) - 1) = (Ln : Int) - (Ld : Int) - 1 := wrapi_id (by omega) (by omega)
  obtain ⟨p, p1, p2, p3, p4⟩ := shifted_ok hn ln (n := ((Ld : Int) - (Ln : Int)).toNat) (by omega) (k := k - 3) (by omega)
  obtain ⟨q, q1, q2, q3, q4⟩ := shifted_ok hd ld (n := ((Ln : Int) - (Ld : Int)).toNat) (by omega) (k := k - 3) (by omega)
  have hmn : mx (-((Ln : Int) - (Ld : Int))) 0 = ((((Ld : Int) - (Ln : Int)).toNat : Nat) : Int) := by rw [mx_int]; omega
  have hmd : mx ((Ln : Int) - (Ld : Int)) 0 = ((((Ln : Int) - (Ld : Int)).toNat : Nat) : Int) := by rw [mx_int]; omega
  obtain ⟨a, b, s1, s2, s3, s4, s5, s6, s7⟩ := psame_ok p2 q2 (by omega) (by omega)
  have hless := less_ok s2 s3 (by omega) (by omega) (k := k - 3) (by omega)
  obtain ⟨k, rfl⟩ : ∃ j, k = j + 3 := ⟨k - 3, by omega⟩
  rw [show k + 3 - 3 = k by omega] at *
  have hA : nv B64 a = nv B64 n * pd ((Ln : Int) - Ld) := by rw [s6, p4, Nat.mul_comm]; unfold pd; congr 2; omega
  have hBv : nv B64 b = nv B64 d * pu ((Ln : Int) - Ld) := by rw [s7, q4, Nat.mul_comm]; rfl
  have hB0 : 0 < nv B64 b := by rw [hBv]; exact Nat.mul_pos d0 (pu_pos _)
  have hroom : ∀ {V len : Nat}, V < B64 ^ len → 2 * V < B64 ^ (len + 1) := by
    intro V len hV
    have h1 : B64 ^ (len + 1) = B64 ^ len * B64 := Nat.pow_succ _ _
    have h3 : B64 ^ len * 2 ≤ B64 ^ len * B64 := Nat.mul_le_mul_left _ (by decide)
    rw [h1]; omega
  have hBr : 2 * nv B64 b < B64 ^ b.length := by
    have h1 := nv_lt b64_pos q2
    have h2 : B64 ^ q.length ≤ B64 ^ (max p.length q.length) := Nat.pow_le_pow_right b64_pos (by omega)
    rw [s5, s7]; exact hroom (Nat.lt_of_lt_of_le h1 h2)
  have hAr : 2 * nv B64 a < B64 ^ a.length := by
    have h1 := nv_lt b64_pos p2
    have h2 : B64 ^ p.length ≤ B64 ^ (max p.length q.length) := Nat.pow_le_pow_right b64_pos (by omega)
    rw [s4, s6]; exact hroom (Nat.lt_of_lt_of_le h1 h2)
  unfold round_Ratio.f
  rw [bind_eq (pformat_ok h), if_pos rfl, bind_eq rfl, round_Ratio.l0, if_pos (by simp), if_pos (by omega), if_pos (by simp), rdn, bind_eq hVn, if_pos (by rfl), w1, round_Ratio.l0, if_pos (by simp), if_pos (by omega), if_pos (by simp), rdd, bind_eq hVd, if_pos (by rfl), w2, round_Ratio.l0, if_neg (by simp), if_neg (by omega), bind_eq (far_ok he0 he1), if_neg (by simp), if_neg (by omega), bind_eq x1, bind_eq y1, wt, wt2, hmn, hmd, bind_eq p1, bind_eq q1, bind_eq s1, bind_eq hless]
  by_cases hlt : nv B64 n * pd ((Ln : Int) - Ld) < nv B64 d * pu ((Ln : Int) - Ld)
  · rw [if_pos hlt] at hfb ho ⊢
    obtain ⟨a2, d1, d2, d3, d4⟩ := double_ok s2 (by omega) hAr (k := k) (by omega)
    rw [if_pos (by rw [hA, hBv]; exact decide_eq_true hlt), bind_eq d1, wt3]
    refine ratio_j1 h neg d0 hfb (by omega) (by omega) exp he0 he1 d2 s3 (by omega) (by omega) hB0 hBr (by rw [d4, hA, hBv]; omega) ?_ o ho (by omega)
    rw [d4, hA, hBv]
    have e1 : pu ((Ln : Int) - Ld) * pd ((Ln : Int) - Ld - 1) = 2 * (pu ((Ln : Int) - Ld - 1) * pd ((Ln : Int) - Ld)) := by
      unfold pu pd
      rw [← Nat.pow_add, ← Nat.pow_add, Nat.mul_comm 2, ← Nat.pow_succ]; congr 1; omega
    have c1 : 2 * (nv B64 n * pd ((Ln : Int) - Ld)) * nv B64 d * pu ((Ln : Int) - Ld - 1) = nv B64 n * nv B64 d * (2 * (pu ((Ln : Int) - Ld - 1) * pd ((Ln : Int) - Ld))) := by
      generalize pd ((Ln : Int) - Ld) = z1; generalize pu ((Ln : Int) - Ld - 1) = z2; generalize nv B64 n = z3; generalize nv B64 d = z4
      rw [Nat.mul_left_comm (z3 * z4) 2, Nat.mul_assoc 2, Nat.mul_assoc 2]
      congr 1
      rw [Nat.mul_assoc z3 z1, Nat.mul_assoc z3 (z1 * z4), Nat.mul_assoc z3 z4]
      congr 1
      rw [Nat.mul_comm z1 z4, Nat.mul_assoc, Nat.mul_comm z1]
    have c2 : nv B64 n * (nv B64 d * pu ((Ln : Int) - Ld)) * pd ((Ln : Int) - Ld - 1) = nv B64 n * nv B64 d * (pu ((Ln : Int) - Ld) * pd ((Ln : Int) - Ld - 1)) := by
      rw [Nat.mul_assoc, Nat.mul_assoc, Nat.mul_assoc]
    rw [c1, c2, e1]
  · rw [if_neg hlt] at hfb ho ⊢
    rw [if_neg (by rw [hA, hBv]; simpa using hlt)]
    have hlt2 := hfb.2
    refine ratio_j1 h neg d0 hfb (by omega) (by omega) exp he0 he1 s2 s3 (by omega) (by omega) hB0 hBr (by rw [hA, hBv]; exact hlt2) ?_ o ho (by omega)
    rw [hA, hBv]
    generalize pd ((Ln : Int) - Ld) = z1; generalize pu ((Ln : Int) - Ld) = z2; generalize nv B64 n = z3; generalize nv B64 d = z4
    rw [Nat.mul_assoc, Nat.mul_assoc, Nat.mul_assoc, Nat.mul_comm z1, Nat.mul_assoc z4]
end Go.Proofs.YtbjmfocjigikgaaDoor.XrB
end
