/- My texts A, L, Q, Rq, XiB, XiC, XiD, XiR, XiP, XiK, XiV, XiW, XiT, XiG, XiPo, XiZ, XiY, XiU, XiE, XiO, XiF, XiFr, XiWh, XiRw, XiRt, XiSm, XiRi, merged. -/
import Derived.Laws.Bits64b
import Derived.Laws.BitsLemmas
import Derived.Lib.TrailingZeros
import Derived.Lib.BitFns
import Derived.Test.YtbjmfocjigikgaaDoorWMore
import Derived.Test.YtbjmfocjigikgaaDoorWLast
import Derived.Test.YtbjmfocjigikgaaDoorWWords
import Derived.Test.YtbjmfocjigikgaaDoorXix1
import Derived.Test.YtbjmfocjigikgaaDoorXix2
import Derived.Test.YtbjmfocjigikgaaDoorXix3
import Derived.Test.YtbjmfocjigikgaaDoorXix7
import Derived.Test.YtbjmfocjigikgaaDoorXix8
import Derived.Test.YtbjmfocjigikgaaDoorXix4
import Derived.Test.YtbjmfocjigikgaaDoorXix5
import Derived.Test.YtbjmfocjigikgaaDoorXix6
section
namespace Go.Proofs.YtbjmfocjigikgaaDoor.A
open Go.RowKit Go.Proofs.YtbjmfocjigikgaaDoorW.PrintMore Go.Proofs.YtbjmfocjigikgaaDoorW.PrintWords Go.Proofs.YtbjmfocjigikgaaDoorW.PrintLast
set_option linter.unusedSimpArgs false

theorem wrapu (n : Int) : IntKind.u64.wrap n = n % 18446744073709551616 := by simp [IntKind.wrap, IntKind.signed, IntKind.bits]
theorem wrapu_id {n : Int} (h0 : 0 ≤ n) (h1 : n < 18446744073709551616) : IntKind.u64.wrap n = n := by rw [wrapu]; omega
theorem wrapi_id {n : Int} (h0 : -9223372036854775808 ≤ n) (h1 : n < 9223372036854775808) : wrap64 n = n := by unfold wrap64; omega
theorem wf_u64 {a : Int} (h : (Lit.int .u64 a).wf = true) : 0 ≤ a ∧ a < 18446744073709551616 := by
  simp only [Lit.wf, IntKind.min, IntKind.max, IntKind.signed, IntKind.bits, Bool.and_eq_true, decide_eq_true_eq] at h
  simp at h; omega
theorem pow_le64 {n : Nat} (h : n ≤ 64) : 2 ^ n ≤ 18446744073709551616 := by
  have : 2 ^ n ≤ 2 ^ 64 := Nat.pow_le_pow_right (by decide) h
  omega
theorem shl_u (x n : Nat) (h : n ≤ 64) : shl .u64 (x : Int) (n : Int) = ((x * 2 ^ n % 18446744073709551616 : Nat) : Int) := by
  unfold shl
  have e : min (n : Int).toNat IntKind.u64.bits = n := by simp [IntKind.bits]; omega
  have e2 : (x : Int) * 2 ^ n = ((x * 2 ^ n : Nat) : Int) := by rw [Int.natCast_mul, Int.natCast_pow]; rfl
  rw [e, wrapu, e2]
  omega
theorem shl_fit (x n : Nat) (h : n ≤ 64) (hx : x * 2 ^ n < 18446744073709551616) : shl .u64 (x : Int) (n : Int) = ((x * 2 ^ n : Nat) : Int) := by
  rw [shl_u x n h, Nat.mod_eq_of_lt hx]
theorem shl1 (n : Nat) (h : n < 64) : shl .u64 1 (n : Int) = ((2 ^ n : Nat) : Int) := by
  have h1 : 2 ^ n < 18446744073709551616 := by
    have : 2 ^ n < 2 ^ 64 := Nat.pow_lt_pow_right (by decide) h
    omega
  have := shl_fit 1 n (by omega) (by omega)
  simpa using this
theorem shr_u (x n : Nat) (h : n ≤ 64) : shr .u64 (x : Int) (n : Int) = ((x / 2 ^ n : Nat) : Int) := by
  unfold shr
  have e : min (n : Int).toNat IntKind.u64.bits = n := by simp [IntKind.bits]; omega
  rw [e, Int.natCast_ediv, Int.natCast_pow]
  rfl
theorem mask_u (k : Nat) (h : k < 64) : IntKind.u64.wrap (shl .u64 1 (k : Int) - 1) = ((2 ^ k - 1 : Nat) : Int) := by
  rw [shl1 k h]
  have h1 := pow_le64 (show k ≤ 64 by omega)
  have h2 : 0 < 2 ^ k := Nat.two_pow_pos k
  rw [wrapu_id] <;> omega
theorem and_u (a b : Nat) (ha : a < 18446744073709551616) (hb : b < 18446744073709551616) : Go.bits .and .u64 (a : Int) (b : Int) = ((a &&& b : Nat) : Int) := bits_and_u64_nat a b ha hb
theorem or_u (a b : Nat) (ha : a < 18446744073709551616) (hb : b < 18446744073709551616) : Go.bits .or .u64 (a : Int) (b : Int) = ((a ||| b : Nat) : Int) := bits_or_u64_nat a b ha hb
theorem and_mask (a k : Nat) (ha : a < 18446744073709551616) (hk : k ≤ 64) : Go.bits .and .u64 (a : Int) ((2 ^ k - 1 : Nat) : Int) = ((a % 2 ^ k : Nat) : Int) := by
  have h1 := pow_le64 hk
  have h2 : 0 < 2 ^ k := Nat.two_pow_pos k
  rw [and_u a _ ha (by omega), Nat.and_two_pow_sub_one_eq_mod]
theorem or_disj (a b k : Nat) (hb : b < 2 ^ k) (h : a * 2 ^ k + b < 18446744073709551616) : Go.bits .or .u64 ((a * 2 ^ k : Nat) : Int) (b : Int) = ((a * 2 ^ k + b : Nat) : Int) := by
  rw [or_u _ _ (by omega) (by omega)]
  congr 1
  rw [Nat.mul_comm a, ← Nat.two_pow_add_eq_or_of_lt hb]
theorem or_disj' (a b k : Nat) (hb : b < 2 ^ k) (h : a * 2 ^ k + b < 18446744073709551616) : Go.bits .or .u64 (b : Int) ((a * 2 ^ k : Nat) : Int) = ((a * 2 ^ k + b : Nat) : Int) := by
  rw [or_u _ _ (by omega) (by omega), Nat.or_comm]
  congr 1
  rw [Nat.mul_comm a, ← Nat.two_pow_add_eq_or_of_lt hb]
theorem bitLen_le64 (x : Nat) (h : x < 18446744073709551616) : Lib.bitLen x ≤ 64 := Lib.bitLen_le x 64 (by decide) (by omega)
theorem blen_spec : ∀ (b x : Nat), Lib.bitLen x = b → 0 < x → x < 18446744073709551616 → 0 < b ∧ 2 ^ (b - 1) ≤ x ∧ x < 2 ^ b
  | 0, x, hb, h0, h => by
    have := Lib.bitLen_half x (by omega) (by omega)
    omega
  | b + 1, x, hb, h0, h => by
    have hh := Lib.bitLen_half x (by omega) (by omega)
    by_cases h1 : x / 2 = 0
    · have hx : x = 1 := by omega
      subst hx
      have : Lib.bitLen (1 / 2) = 0 := by decide
      have : b = 0 := by omega
      subst this
      exact ⟨by omega, by decide, by decide⟩
    · have ih := blen_spec b (x / 2) (by omega) (by omega) (by omega)
      obtain ⟨i0, i1, i2⟩ := ih
      have e1 : 2 ^ (b + 1) = 2 ^ b * 2 := Nat.pow_succ ..
      have e2 : 2 ^ b = 2 ^ (b - 1) * 2 := by rw [← Nat.pow_succ]; congr 1; omega
      refine ⟨by omega, ?_, by omega⟩
      show 2 ^ b ≤ x
      omega
theorem ctz_spec {x : Nat} (h0 : 0 < x) (h : x < 18446744073709551616) : ∃ m, x = (2 * m + 1) * 2 ^ Lib.ctz 64 x ∧ Lib.ctz 64 x < 64 := by
  unfold Lib.ctz
  rw [if_neg (by omega)]
  obtain ⟨m, h1, h2⟩ := Lib.ctzFrom_spec 64 x h0 (by omega)
  exact ⟨m, by rw [Nat.mul_comm]; exact h1, h2⟩
theorem u64ok_of {a : Nat} (h : a < 18446744073709551616) : decide ((0 : Int) ≤ (a : Int) ∧ (a : Int) < 18446744073709551616) = true := decide_eq_true ⟨by omega, by omega⟩
end Go.Proofs.YtbjmfocjigikgaaDoor.A
end
section
namespace Go.Proofs.YtbjmfocjigikgaaDoor.L
set_option linter.unusedVariables false
/-- The value of a row of digits in base B, the lowest first. -/
def nv (B : Nat) : List Int → Nat
  | [] => 0
  | x :: l => x.toNat + B * nv B l
/-- All are digits. -/
def okl (B : Nat) (l : List Int) : Prop := ∀ x ∈ l, 0 ≤ x ∧ x < (B : Int)
/-- No nought on top. -/
def top (l : List Int) : Prop := ∀ x, l.getLast? = some x → x ≠ 0
theorem okl_nil (B : Nat) : okl B [] := fun x h => by cases h
theorem okl_cons {B : Nat} {x : Int} {l : List Int} : okl B (x :: l) ↔ (0 ≤ x ∧ x < (B : Int)) ∧ okl B l := by
  unfold okl; simp
theorem okl_append {B : Nat} {a b : List Int} : okl B (a ++ b) ↔ okl B a ∧ okl B b := by
  unfold okl; simp only [List.mem_append]
  exact ⟨fun h => ⟨fun x hx => h x (.inl hx), fun x hx => h x (.inr hx)⟩, fun h x hx => hx.elim (h.1 x) (h.2 x)⟩
theorem okl_take {B : Nat} {l : List Int} (h : okl B l) (n : Nat) : okl B (l.take n) := fun x hx => h x (List.mem_of_mem_take hx)
theorem okl_zeros (B n : Nat) (hB : 0 < B) : okl B (List.replicate n 0) := by
  intro x hx
  rw [List.mem_replicate] at hx
  omega
theorem okl_set {B : Nat} {l : List Int} (h : okl B l) (i : Nat) {x : Int} (hx : 0 ≤ x ∧ x < (B : Int)) : okl B (l.set i x) := by
  intro y hy
  rcases List.mem_or_eq_of_mem_set hy with h1 | h1
  · exact h y h1
  · subst h1; exact hx
theorem okl_get {B : Nat} {l : List Int} (h : okl B l) (i : Nat) (hB : 0 < B) : 0 ≤ l.getD i 0 ∧ l.getD i 0 < (B : Int) := by
  rcases Nat.lt_or_ge i l.length with hi | hi
  · have : l.getD i 0 = l[i] := by simp [List.getD, hi]
    rw [this]; exact h _ (List.getElem_mem hi)
  · have : l.getD i 0 = 0 := by simp [List.getD, hi]
    rw [this]; omega
theorem nv_append (B : Nat) (b : List Int) : ∀ a : List Int, nv B (a ++ b) = nv B a + B ^ a.length * nv B b
  | [] => by simp [nv]
  | x :: l => by
    rw [List.cons_append, nv, nv, nv_append B b l, List.length_cons, Nat.pow_succ, Nat.mul_add, Nat.mul_comm (B ^ l.length) B, Nat.mul_assoc, Nat.add_assoc]
theorem nv_lt {B : Nat} (hB : 0 < B) : ∀ {l : List Int}, okl B l → nv B l < B ^ l.length
  | [], _ => by simp [nv]
  | x :: l, h => by
    obtain ⟨hx, hl⟩ := okl_cons.1 h
    have ih := nv_lt hB hl
    rw [nv, List.length_cons, Nat.pow_succ, Nat.mul_comm (B ^ l.length)]
    have h1 : nv B l + 1 ≤ B ^ l.length := ih
    have h2 := Nat.mul_le_mul_left B h1
    rw [Nat.mul_add, Nat.mul_one] at h2
    omega
theorem nv_zeros (B : Nat) : ∀ n, nv B (List.replicate n 0) = 0
  | 0 => rfl
  | n + 1 => by rw [List.replicate_succ, nv, nv_zeros B n]; rfl
theorem nv_take_drop (B : Nat) (l : List Int) (i : Nat) (hi : i ≤ l.length) : nv B l = nv B (l.take i) + B ^ i * nv B (l.drop i) := by
  have h := nv_append B (l.drop i) (l.take i)
  rw [List.take_append_drop, List.length_take, Nat.min_eq_left hi] at h
  exact h
theorem drop_get {l : List Int} {i : Nat} (hi : i < l.length) : l.drop i = l.getD i 0 :: l.drop (i + 1) := by
  rw [List.drop_eq_getElem_cons hi]
  simp [List.getD, hi]
theorem take_get {l : List Int} {i : Nat} (hi : i < l.length) : l.take (i + 1) = l.take i ++ [l.getD i 0] := by
  rw [List.take_succ_eq_append_getElem hi]
  simp [List.getD, hi]
theorem nv_take_succ (B : Nat) {l : List Int} {i : Nat} (hi : i < l.length) : nv B (l.take (i + 1)) = nv B (l.take i) + B ^ i * (l.getD i 0).toNat := by
  rw [take_get hi, nv_append, List.length_take, Nat.min_eq_left (by omega)]
  simp [nv]
theorem nv_snoc (B : Nat) (l : List Int) (x : Int) : nv B (l ++ [x]) = nv B l + B ^ l.length * x.toNat := by
  rw [nv_append]; simp [nv]
theorem nv_set (B : Nat) : ∀ {l : List Int} {i : Nat} (x : Int), i < l.length → nv B (l.set i x) + B ^ i * (l.getD i 0).toNat = nv B l + B ^ i * x.toNat
  | [], _, _, h => by simp at h
  | y :: l, 0, x, _ => by simp [nv]; omega
  | y :: l, i + 1, x, h => by
    have ih := nv_set B (l := l) (i := i) x (by simpa using h)
    have e1 : (y :: l).getD (i + 1) 0 = l.getD i 0 := by simp
    rw [List.set_cons_succ, nv, nv, e1, Nat.pow_succ, Nat.mul_comm (B ^ i) B, Nat.mul_assoc, Nat.mul_assoc]
    have := congrArg (B * ·) ih
    simp only [Nat.mul_add] at this
    omega
theorem top_nil : top [] := fun x h => by simp at h
theorem top_snoc {l : List Int} {x : Int} (h : x ≠ 0) : top (l ++ [x]) := fun y hy => by simp at hy; omega
theorem top_ge {B : Nat} (hB : 0 < B) {l : List Int} (hl : okl B l) (ht : top l) (hne : l ≠ []) : B ^ (l.length - 1) ≤ nv B l := by
  obtain ⟨m, x, rfl⟩ : ∃ m x, l = m ++ [x] := ⟨l.dropLast, l.getLast hne, (List.dropLast_concat_getLast hne).symm⟩
  have hx : x ≠ 0 := ht x (by simp)
  have hx2 := (hl x (by simp)).1
  rw [nv_snoc, List.length_append, List.length_singleton, Nat.add_sub_cancel]
  have : 1 ≤ x.toNat := by omega
  have := Nat.mul_le_mul_left (B ^ m.length) this
  omega
theorem top_length {B : Nat} (hB : 1 < B) {a : List Int} (ha : okl B a) (ta : top a) (n : Nat) : a.length ≤ n ↔ nv B a < B ^ n := by
  have hB0 : 0 < B := by omega
  constructor
  · intro h
    exact Nat.lt_of_lt_of_le (nv_lt hB0 ha) (Nat.pow_le_pow_right hB0 h)
  · intro h
    rcases Nat.lt_or_ge n a.length with hlt | hge
    · exfalso
      have hne : a ≠ [] := by rintro rfl; simp at hlt
      have h1 := top_ge hB0 ha ta hne
      have h3 : B ^ n ≤ B ^ (a.length - 1) := Nat.pow_le_pow_right hB0 (by omega)
      omega
    · exact hge
theorem nv_eq_zero {B : Nat} (hB : 1 < B) {a : List Int} (ha : okl B a) (ta : top a) : nv B a = 0 ↔ a = [] := by
  have := top_length hB ha ta 0
  rw [Nat.pow_zero] at this
  constructor
  · intro h
    have h1 := this.2 (by omega)
    exact List.length_eq_zero_iff.1 (by omega)
  · rintro rfl; rfl
/-- The digits of a value, without a nought on top. -/
def dig (B : Nat) : Nat → Nat → List Int
  | 0, _ => []
  | f + 1, n => if n = 0 then [] else ((n % B : Nat) : Int) :: dig B f (n / B)
end Go.Proofs.YtbjmfocjigikgaaDoor.L
end
section
namespace Go.Proofs.YtbjmfocjigikgaaDoor.Q
open Go.Proofs.YtbjmfocjigikgaaDoor.A
set_option linter.unusedVariables false
/-- m by two to the c, to the nearest, half to even. -/
def rhe (m c : Nat) : Nat := if 2 ^ c < 2 * (m % 2 ^ c) ∨ (2 * (m % 2 ^ c) = 2 ^ c ∧ m / 2 ^ c % 2 = 1) then m / 2 ^ c + 1 else m / 2 ^ c
/-- m times two to the e on the grid of two to the last. -/
def gridv (m : Nat) (e last : Int) : Nat := if last ≤ e then m * 2 ^ (e - last).toNat else rhe m (last - e).toNat
/-- The exponent of the last bit of a format with F bits behind the first one, and L the least. -/
def lastOf (F : Nat) (L : Int) (m : Nat) (e : Int) : Int := max ((Lib.bitLen m : Int) - 1 + e - F) L
/-- The bits without a sign, if there were no greatest. -/
def bitsv (F : Nat) (L : Int) (m : Nat) (e : Int) : Nat := (lastOf F L m e - L).toNat * 2 ^ F + gridv m e (lastOf F L m e)
end Go.Proofs.YtbjmfocjigikgaaDoor.Q
end
section
namespace Go.Proofs.YtbjmfocjigikgaaDoor.Q
open Go.Proofs.YtbjmfocjigikgaaDoor.A
set_option linter.unusedVariables false
/-- x by y, to the nearest, half to even; with a little more: half goes up. -/
def rq (x y : Nat) (more : Bool) : Nat := if y < 2 * (x % y) ∨ (2 * (x % y) = y ∧ (more = true ∨ x / y % 2 = 1)) then x / y + 1 else x / y
theorem cross_div {x y x' y' : Nat} (hy : 0 < y) (hy' : 0 < y') (h : x * y' = x' * y) : x / y = x' / y' ∧ (x % y) * y' = (x' % y') * y := by
  have e1 : x / y = x' / y' := by
    have h1 : x * y' / (y * y') = x / y := Nat.mul_div_mul_right x y hy'
    have h2 : x' * y / (y' * y) = x' / y' := Nat.mul_div_mul_right x' y' hy
    rw [← h1, ← h2, h, Nat.mul_comm y y']
  refine ⟨e1, ?_⟩
  have h1 := Nat.mul_mod_mul_right y' x y
  have h2 := Nat.mul_mod_mul_right y x' y'
  rw [← h1, ← h2, h, Nat.mul_comm y y']
theorem rq_cross {x y x' y' : Nat} (hy : 0 < y) (hy' : 0 < y') (h : x * y' = x' * y) (more : Bool) : rq x y more = rq x' y' more := by
  obtain ⟨h1, h2⟩ := cross_div hy hy' h
  have hlt : (y < 2 * (x % y)) ↔ (y' < 2 * (x' % y')) := by
    have a1 : y * y' < 2 * (x % y) * y' ↔ y < 2 * (x % y) := Nat.mul_lt_mul_right hy'
    have a2 : y' * y < 2 * (x' % y') * y ↔ y' < 2 * (x' % y') := Nat.mul_lt_mul_right hy
    rw [← a1, ← a2, Nat.mul_assoc, h2, Nat.mul_assoc, Nat.mul_comm y y']
  have heq : (2 * (x % y) = y) ↔ (2 * (x' % y') = y') := by
    have a1 : 2 * (x % y) * y' = y * y' ↔ 2 * (x % y) = y := Nat.mul_left_inj (by omega)
    have a2 : 2 * (x' % y') * y = y' * y ↔ 2 * (x' % y') = y' := Nat.mul_left_inj (by omega)
    rw [← a1, ← a2, Nat.mul_assoc, h2, Nat.mul_assoc, Nat.mul_comm y y']
  unfold rq
  rw [h1]
  simp only [hlt, heq]
theorem rq_le (x y : Nat) (more : Bool) : rq x y more ≤ x / y + 1 := by unfold rq; split <;> omega
theorem rq_small {x y : Nat} (more : Bool) (h : 2 * x < y) : rq x y more = 0 := by
  unfold rq
  have h1 : x % y = x := Nat.mod_eq_of_lt (by omega)
  have h2 : x / y = 0 := Nat.div_eq_of_lt (by omega)
  rw [h1, h2, if_neg (by omega)]
/-- Two to a whole number's upper part, and to its lower one. -/
def pu (e : Int) : Nat := 2 ^ e.toNat
def pd (e : Int) : Nat := 2 ^ (-e).toNat
theorem pu_pos (e : Int) : 0 < pu e := Nat.two_pow_pos _
theorem pd_pos (e : Int) : 0 < pd e := Nat.two_pow_pos _
/-- The exponent of a fraction's first bit. -/
def fb (n d : Nat) (e : Int) : Prop := d * pu e ≤ n * pd e ∧ n * pd e < 2 * (d * pu e)
theorem fb_unique {n d : Nat} {e f : Int} (hd : 0 < d) (he : fb n d e) (hf : fb n d f) : e = f := by
  have key : ∀ {e f : Int}, fb n d e → fb n d f → ¬ e < f := by
    intro e f ⟨_, h2⟩ ⟨h3, _⟩ hlt
    have a1 : n * pd e * pd f < 2 * (d * pu e) * pd f := Nat.mul_lt_mul_of_pos_right h2 (pd_pos f)
    have a2 : d * pu f * pd e ≤ n * pd f * pd e := Nat.mul_le_mul_right _ h3
    have a3 : 2 * (pu e * pd f) ≤ pu f * pd e := by
      unfold pu pd
      rw [← Nat.pow_add, ← Nat.pow_add, show 2 * 2 ^ (e.toNat + (-f).toNat) = 2 ^ (e.toNat + (-f).toNat + 1) by rw [Nat.pow_succ, Nat.mul_comm]]
      exact Nat.pow_le_pow_right (by decide) (by omega)
    have a4 := Nat.mul_le_mul_left d a3
    have a5 : n * pd e * pd f = n * pd f * pd e := by rw [Nat.mul_assoc, Nat.mul_assoc, Nat.mul_comm (pd e)]
    have a6 : 2 * (d * pu e) * pd f = d * (2 * (pu e * pd f)) := by rw [Nat.mul_assoc, Nat.mul_assoc, Nat.mul_left_comm]
    have a7 : d * pu f * pd e = d * (pu f * pd e) := Nat.mul_assoc _ _ _
    omega
  have h1 := key he hf
  have h2 := key hf he
  omega
/-- The last bit's exponent. -/
def lst (F : Nat) (L e exp : Int) : Int := max (e + exp - F) L
/-- The rounded mantissa. -/
def man (n d : Nat) (exp last : Int) (more : Bool) : Nat := rq (n * pu (exp - last)) (d * pd (exp - last)) more
theorem man_small {F n d : Nat} {L e exp : Int} (hd : 0 < d) (he : fb n d e) (more : Bool) : man n d exp (lst F L e exp) more < 2 ^ (F + 1) + 1 := by
  have hq := rq_le (n * pu (exp - lst F L e exp)) (d * pd (exp - lst F L e exp)) more
  unfold man
  refine Nat.lt_of_le_of_lt hq ?_
  have : n * pu (exp - lst F L e exp) / (d * pd (exp - lst F L e exp)) < 2 ^ (F + 1) := by
    rw [Nat.div_lt_iff_lt_mul (Nat.mul_pos hd (pd_pos _))]
    have h2 := he.2
    have hl : e + exp - F ≤ lst F L e exp := by unfold lst; omega
    generalize lst F L e exp = last at *
    have a1 : n * pd e * (pu (exp - last)) < 2 * (d * pu e) * pu (exp - last) := Nat.mul_lt_mul_of_pos_right h2 (pu_pos _)
    have a2 : 2 * (pu e * pu (exp - last)) ≤ 2 ^ (F + 1) * (pd (exp - last) * pd e) := by
      unfold pu pd
      simp only [← Nat.pow_add]
      rw [show 2 * 2 ^ (e.toNat + (exp - last).toNat) = 2 ^ (e.toNat + (exp - last).toNat + 1) by rw [Nat.pow_succ, Nat.mul_comm]]
      exact Nat.pow_le_pow_right (by decide) (by omega)
    have a3 := Nat.mul_le_mul_left d a2
    have a4 : n * pu (exp - last) * pd e < 2 ^ (F + 1) * (d * pd (exp - last)) * pd e := by
      calc n * pu (exp - last) * pd e = n * pd e * pu (exp - last) := by rw [Nat.mul_assoc, Nat.mul_assoc, Nat.mul_comm (pu _)]
        _ < 2 * (d * pu e) * pu (exp - last) := a1
        _ = d * (2 * (pu e * pu (exp - last))) := by rw [Nat.mul_assoc, Nat.mul_assoc, Nat.mul_left_comm]
        _ ≤ d * (2 ^ (F + 1) * (pd (exp - last) * pd e)) := a3
        _ = 2 ^ (F + 1) * (d * pd (exp - last)) * pd e := by rw [Nat.mul_left_comm d, Nat.mul_assoc, Nat.mul_assoc]
    exact Nat.lt_of_mul_lt_mul_right a4
  omega
end Go.Proofs.YtbjmfocjigikgaaDoor.Q
end
section
namespace Go.Proofs.YtbjmfocjigikgaaDoor.XiB
open Go.RowKit Go.Proofs.YtbjmfocjigikgaaDoor.Xi Go.Proofs.YtbjmfocjigikgaaDoor.A Go.Proofs.YtbjmfocjigikgaaDoorW.PrintWords Go.Proofs.YtbjmfocjigikgaaDoorW.PrintLast Go.Proofs.YtbjmfocjigikgaaDoorW.PrintMore
set_option linter.unusedSimpArgs false
set_option linter.unusedVariables false

/-- A size's numbers: the mantissa's bits, the exponent's, the sign's place, the least exponent, the infinity. -/
def IsFmt (size F E S : Nat) (L : Int) (I : Nat) : Prop :=
  (size = 32 ∧ F = 23 ∧ E = 8 ∧ S = 31 ∧ L = -149 ∧ I = 2139095040) ∨ (size = 64 ∧ F = 52 ∧ E = 11 ∧ S = 63 ∧ L = -1074 ∧ I = 9218868437227405312)
theorem fmt32 : IsFmt 32 23 8 31 (-149) 2139095040 := .inl ⟨rfl, rfl, rfl, rfl, rfl, rfl⟩
theorem fmt64 : IsFmt 64 52 11 63 (-1074) 9218868437227405312 := .inr ⟨rfl, rfl, rfl, rfl, rfl, rfl⟩

theorem bind_eq {α β : Type} {o : Option α} {a : α} {f : α → Option β} (h : o = some a) : o.bind f = f a := by rw [h]; rfl
theorem formatOf_ok {size F E S : Nat} {L : Int} {I : Nat} (h : IsFmt size F E S L I) : bits_formatOf.f size = some ((F : Int), (E : Int), none) := by
  rcases h with ⟨rfl, rfl, rfl, rfl, rfl, rfl⟩ | ⟨rfl, rfl, rfl, rfl, rfl, rfl⟩ <;> decide +kernel
theorem sign_ok {size F E S : Nat} {L : Int} {I : Nat} (h : IsFmt size F E S L I) : bits_format_sign.f F E = some ((2 ^ S : Nat) : Int) := by
  rcases h with ⟨rfl, rfl, rfl, rfl, rfl, rfl⟩ | ⟨rfl, rfl, rfl, rfl, rfl, rfl⟩ <;> decide +kernel
theorem inf_ok {size F E S : Nat} {L : Int} {I : Nat} (h : IsFmt size F E S L I) : bits_format_inf.f F E = some (I : Int) := by
  rcases h with ⟨rfl, rfl, rfl, rfl, rfl, rfl⟩ | ⟨rfl, rfl, rfl, rfl, rfl, rfl⟩ <;> decide +kernel
theorem least_ok {size F E S : Nat} {L : Int} {I : Nat} (h : IsFmt size F E S L I) : bits_format_least.f F E = some L := by
  rcases h with ⟨rfl, rfl, rfl, rfl, rfl, rfl⟩ | ⟨rfl, rfl, rfl, rfl, rfl, rfl⟩ <;> decide +kernel
def cls (I m : Nat) : Int := if m = 0 then 1 else if m < I then 2 else if m = I then 3 else 4
/-- The parts of a finite float's magnitude. -/
def mantOf (F m : Nat) : Nat := if m / 2 ^ F = 0 then m % 2 ^ F else m % 2 ^ F + 2 ^ F
def expOf (F : Nat) (L : Int) (m : Nat) : Int := if m / 2 ^ F = 0 then L else L + ((m / 2 ^ F : Nat) : Int) - 1
def unp (F S : Nat) (L : Int) (I a : Nat) : Bool × Int × Int × Int :=
  let m := a % 2 ^ S
  if cls I m = 4 then (false, 4, 0, 0) else if cls I m = 2 then (decide (2 ^ S ≤ a), 2, (mantOf F m : Int), expOf F L m) else (decide (2 ^ S ≤ a), cls I m, 0, 0)
end Go.Proofs.YtbjmfocjigikgaaDoor.XiB
end
section
namespace Go.Proofs.YtbjmfocjigikgaaDoor.XiB
open Go.RowKit Go.Proofs.YtbjmfocjigikgaaDoor.Xi Go.Proofs.YtbjmfocjigikgaaDoor.A Go.Proofs.YtbjmfocjigikgaaDoorW.PrintWords Go.Proofs.YtbjmfocjigikgaaDoorW.PrintLast Go.Proofs.YtbjmfocjigikgaaDoorW.PrintMore
set_option linter.unusedSimpArgs false
set_option linter.unusedVariables false

theorem rsize_ok {size F E S : Nat} {L : Int} {I : Nat} (h : IsFmt size F E S L I) : numeralref11_Size.f size = some true := by
  rcases h with ⟨rfl, rfl, rfl, rfl, rfl, rfl⟩ | ⟨rfl, rfl, rfl, rfl, rfl, rfl⟩ <;> decide +kernel
theorem rsize_bad {size : Int} (h1 : size ≠ 32) (h2 : size ≠ 64) : numeralref11_Size.f size = some false := by
  unfold numeralref11_Size.f; rw [if_neg h1, beq_eq_false_iff_ne.mpr h2]
theorem rsign_ok {size F E S : Nat} {L : Int} {I : Nat} (h : IsFmt size F E S L I) : numeralref11_sign.f size = some ((2 ^ S : Nat) : Int) := by
  rcases h with ⟨rfl, rfl, rfl, rfl, rfl, rfl⟩ | ⟨rfl, rfl, rfl, rfl, rfl, rfl⟩ <;> decide +kernel
theorem rinf_ok {size F E S : Nat} {L : Int} {I : Nat} (h : IsFmt size F E S L I) : numeralref11_inf.f size = some (I : Int) := by
  rcases h with ⟨rfl, rfl, rfl, rfl, rfl, rfl⟩ | ⟨rfl, rfl, rfl, rfl, rfl, rfl⟩ <;> decide +kernel
/-- The canonical NaN. -/
def nanOf (F I : Nat) : Nat := I + 2 ^ (F - 1)
theorem fmt_small {size F E S : Nat} {L : Int} {I : Nat} (h : IsFmt size F E S L I) : 0 < F ∧ F < 63 ∧ S + 1 ≤ 64 ∧ F < S ∧ (L = -149 ∨ L = -1074) ∧ (size = 32 ∨ size = 64) ∧ 23 ≤ F := by
  rcases h with ⟨rfl, rfl, rfl, rfl, rfl, rfl⟩ | ⟨rfl, rfl, rfl, rfl, rfl, rfl⟩ <;> simp
/-! packing: NaN, noughts, infinities -/
theorem Pack_zero {size F E S : Nat} {L : Int} {I : Nat} (h : IsFmt size F E S L I) (k : Nat) (neg : Bool) (m e : Int) : bits_Pack.f k neg 1 m e size = some (((if neg then 2 ^ S else 0 : Nat) : Int), none) := by
  unfold bits_Pack.f
  rw [bind_eq (formatOf_ok h), if_pos (by rfl), if_pos (by rfl), bind_eq (sign_ok h)]
  cases neg
  · simp
  · rcases h with ⟨rfl, rfl, rfl, rfl, rfl, rfl⟩ | ⟨rfl, rfl, rfl, rfl, rfl, rfl⟩ <;> decide +kernel
theorem Pack_inf {size F E S : Nat} {L : Int} {I : Nat} (h : IsFmt size F E S L I) (k : Nat) (neg : Bool) (m e : Int) : bits_Pack.f k neg 3 m e size = some (((if neg then I + 2 ^ S else I : Nat) : Int), none) := by
  unfold bits_Pack.f
  rw [bind_eq (formatOf_ok h), if_pos (by rfl), if_neg (by decide), if_pos (by rfl), bind_eq (inf_ok h), bind_eq (sign_ok h)]
  cases neg
  · simp
  · rcases h with ⟨rfl, rfl, rfl, rfl, rfl, rfl⟩ | ⟨rfl, rfl, rfl, rfl, rfl, rfl⟩ <;> decide +kernel
theorem size_cases (a : Nat) (ha : a < 18446744073709551616) (s : Int) : (∃ (z F E S : Nat) (L : Int) (I : Nat), s = z ∧ IsFmt z F E S L I ∧ a < 2 ^ (S + 1)) ∨ (s = 32 ∧ 4294967296 ≤ a) ∨ (s ≠ 32 ∧ s ≠ 64) := by
  by_cases h1 : s = 32
  · by_cases h2 : a < 4294967296
    · exact .inl ⟨32, 23, 8, 31, -149, 2139095040, h1, fmt32, h2⟩
    · exact .inr (.inl ⟨h1, by omega⟩)
  · by_cases h2 : s = 64
    · exact .inl ⟨64, 52, 11, 63, -1074, 9218868437227405312, h2, fmt64, ha⟩
    · exact .inr (.inr ⟨h1, h2⟩)
theorem fmt_I {size F E S : Nat} {L : Int} {I : Nat} (h : IsFmt size F E S L I) : 0 < I ∧ I < 2 ^ S ∧ S ≤ 63 := by
  rcases h with ⟨rfl, rfl, rfl, rfl, rfl, rfl⟩ | ⟨rfl, rfl, rfl, rfl, rfl, rfl⟩ <;> simp
theorem Signed_ok {size F E S : Nat} {L : Int} {I : Nat} (h : IsFmt size F E S L I) (neg : Bool) {x : Nat} (hx : x < 2 ^ S) : numeralref11_Signed.f neg x size = some (((if neg then x + 2 ^ S else x : Nat) : Int)) := by
  obtain ⟨hI0, hI, hS⟩ := fmt_I h
  have h4 : 2 ^ S ≤ 2 ^ 63 := Nat.pow_le_pow_right (by decide) hS
  unfold numeralref11_Signed.f
  cases neg
  · rfl
  · rw [if_pos rfl, bind_eq (rsign_ok h), if_pos rfl]
    have := or_disj' 1 x S hx (by omega)
    rw [Nat.one_mul, Nat.add_comm] at this
    rw [this]
end Go.Proofs.YtbjmfocjigikgaaDoor.XiB
end
section
namespace Go.Proofs.YtbjmfocjigikgaaDoor.XiB
open Go.RowKit Go.Proofs.YtbjmfocjigikgaaDoor.Xi Go.Proofs.YtbjmfocjigikgaaDoor.A Go.Proofs.YtbjmfocjigikgaaDoorW.PrintWords Go.Proofs.YtbjmfocjigikgaaDoorW.PrintLast Go.Proofs.YtbjmfocjigikgaaDoorW.PrintMore
set_option linter.unusedSimpArgs false
set_option linter.unusedVariables false

/-- o times two to the u is the mantissa of o times two to the t. -/
def Rep (F : Nat) (L t : Int) (o u : Nat) : Prop := o * 2 ^ u < 2 ^ (F + 1) ∧ L ≤ t - u ∧ (2 ^ F ≤ o * 2 ^ u ∨ t - u = L)
theorem Rep_le {F : Nat} {L t : Int} {o u v : Nat} (hu : Rep F L t o u) (hv : Rep F L t o v) : v ≤ u := by
  rcases Nat.lt_or_ge u v with h | h
  · exfalso
    obtain ⟨u1, u2, u3⟩ := hu
    obtain ⟨v1, v2, v3⟩ := hv
    obtain ⟨d, rfl⟩ : ∃ d, v = u + 1 + d := ⟨v - u - 1, by omega⟩
    have e : o * 2 ^ (u + 1 + d) = o * 2 ^ u * 2 * 2 ^ d := by rw [Nat.pow_add, Nat.pow_succ]; simp only [Nat.mul_assoc]
    have hd : 0 < 2 ^ d := Nat.two_pow_pos d
    have h2 : o * 2 ^ u * 2 ≤ o * 2 ^ u * 2 * 2 ^ d := Nat.le_mul_of_pos_right _ hd
    have h3 : 2 ^ (F + 1) = 2 ^ F * 2 := Nat.pow_succ ..
    have h4 : o * 2 ^ u < 2 ^ F := by omega
    rcases u3 with h5 | h5
    · omega
    · omega
  · exact h
theorem Rep_unique {F : Nat} {L t : Int} {o u v : Nat} (hu : Rep F L t o u) (hv : Rep F L t o v) : u = v := Nat.le_antisymm (Rep_le hv hu) (Rep_le hu hv)
theorem Rep_pos {F : Nat} {L t : Int} {o u : Nat} (hu : Rep F L t o u) : o < 2 ^ (F + 1) ∧ L ≤ t := by
  obtain ⟨u1, u2, _⟩ := hu
  have : 0 < 2 ^ u := Nat.two_pow_pos u
  have : o ≤ o * 2 ^ u := Nat.le_mul_of_pos_right _ this
  omega
/-- The bits of a mantissa and an exponent, and the error's number. -/
def packv (F E : Nat) (L : Int) (M : Nat) (X : Int) : Int × Int :=
  if M < 2 ^ F then ((M : Int), 0) else if X - L + 1 ≥ 2 ^ E - 1 then (0, 4) else ((((X - L).toNat * 2 ^ F + M : Nat) : Int), 0)
theorem bitLen_rep {F : Nat} {L t : Int} {o : Nat} (h0 : 0 < o) (ho : o < 2 ^ (F + 1)) (ht : L ≤ t) (hF : F < 63) :
    Lib.bitLen o ≤ F + 1 ∧ Rep F L t o (min (F + 1 - Lib.bitLen o) (t - L).toNat) := by
  have h64 : 2 ^ (F + 1) ≤ 18446744073709551616 := pow_le64 (by omega)
  have hle : Lib.bitLen o ≤ F + 1 := Lib.bitLen_le o (F + 1) (by omega) ho
  obtain ⟨b0, b1, b2⟩ := blen_spec _ o rfl h0 (by omega)
  generalize hb : Lib.bitLen o = b at *
  refine ⟨hle, ?_⟩
  generalize hu : min (F + 1 - b) (t - L).toNat = u
  have hu1 : u ≤ F + 1 - b := by omega
  have hu2 : u ≤ (t - L).toNat := by omega
  refine ⟨?_, by omega, ?_⟩
  · have h1 : o * 2 ^ u < 2 ^ b * 2 ^ u := Nat.mul_lt_mul_of_pos_right b2 (Nat.two_pow_pos u)
    rw [← Nat.pow_add] at h1
    exact Nat.lt_of_lt_of_le h1 (Nat.pow_le_pow_right (by decide) (by omega))
  · by_cases hc : u = F + 1 - b
    · left
      have h1 : 2 ^ (b - 1) * 2 ^ u ≤ o * 2 ^ u := Nat.mul_le_mul_right _ b1
      rw [← Nat.pow_add, show b - 1 + u = F by omega] at h1
      exact h1
    · right; omega
theorem fmt_E {size F E S : Nat} {L : Int} {I : Nat} (h : IsFmt size F E S L I) : (2 : Int) ^ E - 1 = 255 ∧ E = 8 ∧ F = 23 ∧ L = -149 ∨ (2 : Int) ^ E - 1 = 2047 ∧ E = 11 ∧ F = 52 ∧ L = -1074 := by
  rcases h with ⟨rfl, rfl, rfl, rfl, rfl, rfl⟩ | ⟨rfl, rfl, rfl, rfl, rfl, rfl⟩ <;> simp
theorem shl_i64_E {E : Nat} (hE : E = 8 ∨ E = 11) : wrap64 (shl .i64 1 (E : Int) - 1) = 2 ^ E - 1 := by
  rcases hE with rfl | rfl <;> decide +kernel
theorem mn_int (a b : Int) : mn a b = min a b := by unfold mn; split <;> omega
/-- The program's fine, where o times two to the t has a normal form. -/
theorem fine_ok {size F E S : Nat} {L : Int} {I : Nat} (h : IsFmt size F E S L I) {o n u : Nat} {e : Int} (hm : (2 * o + 1) * 2 ^ n < 18446744073709551616) (hn : Lib.ctz 64 ((2 * o + 1) * 2 ^ n) = n) (hn64 : n < 64)
    (he0 : -5000 ≤ e) (he1 : e ≤ 5000) (hr : Rep F L (e + n) (2 * o + 1) u) (k : Nat) :
    bits_format_fine.f (k + 2) F E (((2 * o + 1) * 2 ^ n : Nat) : Int) e = some ((packv F E L ((2 * o + 1) * 2 ^ u) (e + n - u)).1, if (packv F E L ((2 * o + 1) * 2 ^ u) (e + n - u)).2 = 0 then none else some (packv F E L ((2 * o + 1) * 2 ^ u) (e + n - u)).2) := by
  obtain ⟨hF0, hF, hS, hFS, hL, _, hF23⟩ := fmt_small h
  obtain ⟨ho, ht⟩ := Rep_pos hr
  have h64 : 2 ^ (F + 1) ≤ 18446744073709551616 := pow_le64 (by omega)
  obtain ⟨hb, hr2⟩ := bitLen_rep (L := L) (t := e + n) (by omega : 0 < 2 * o + 1) ho ht hF
  have hu := Rep_unique hr hr2
  have hbE := fmt_E h
  have htz : bits_TrailingZeros64.f (((2 * o + 1) * 2 ^ n : Nat) : Int) = some (n : Int) := by
    unfold bits_TrailingZeros64.f u64ok
    rw [if_pos (u64ok_of hm), Int.toNat_natCast, hn]
  have hlen : bits_Len64.f ((2 * o + 1 : Nat) : Int) = some ((Lib.bitLen (2 * o + 1) : Nat) : Int) := by
    unfold bits_Len64.f u64ok
    rw [if_pos (u64ok_of (by omega)), Int.toNat_natCast]
  have hdiv : (2 * o + 1) * 2 ^ n / 2 ^ n = 2 * o + 1 := Nat.mul_div_cancel _ (Nat.two_pow_pos n)
  unfold bits_format_fine.f
  rw [bind_eq htz, if_pos (by omega), if_neg (by omega), shr_u _ n (by omega), hdiv, decide_eq_false (by omega)]
  generalize 2 * o + 1 = O at *
  rw [bits_format_fine.j0, if_neg (by decide), bind_eq hlen, wrapi_id (n := (F : Int) + 1) (by omega) (by omega), if_neg (by omega), bind_eq (least_ok h), wrapi_id (n := e + (n : Int)) (by omega) (by omega), decide_eq_false (by omega)]
  rw [bits_format_fine.j1, if_neg (by decide), bind_eq (least_ok h), wrapi_id (n := (F : Int) + 1) (by omega) (by omega), wrapi_id (n := (F : Int) + 1 - (Lib.bitLen O : Int)) (by omega) (by omega), wrapi_id (n := e + (n : Int) - L) (by omega) (by omega), mn_int]
  have hmin : min ((F : Int) + 1 - (Lib.bitLen O : Int)) (e + (n : Int) - L) = (u : Int) := by omega
  obtain ⟨r1, r2, r3⟩ := hr
  have hu64 : u ≤ 64 := by omega
  have hI : IntKind.u64.bits = 64 := rfl
  rw [hmin, if_pos (by omega), if_pos (by omega), shl_fit O u hu64 (by omega)]
  generalize hM : O * 2 ^ u = M at *
  rw [shr_u M F (by omega)]
  unfold packv
  by_cases hc : M < 2 ^ F
  · rw [if_pos (by rw [Nat.div_eq_of_lt hc]; rfl), if_pos hc]
    rfl
  · have hd : M / 2 ^ F = 1 := by
      have : 2 ^ (F + 1) = 2 ^ F * 2 := Nat.pow_succ ..
      apply Nat.div_eq_of_lt_le <;> omega
    have hmod : M % 2 ^ F = M - 2 ^ F := by
      have := Nat.div_add_mod M (2 ^ F)
      rw [hd] at this; omega
    have hE : E = 8 ∨ E = 11 := by rcases hbE with ⟨_, hE, _⟩ | ⟨_, hE, _⟩ <;> simp [hE]
    rw [if_neg (by omega), bind_eq (least_ok h), if_pos (by omega), if_neg hc, wrapi_id (n := e + (n : Int) - u) (by omega) (by omega), wrapi_id (n := e + (n : Int) - u - L) (by omega) (by omega), wrapi_id (n := e + (n : Int) - u - L + 1) (by omega) (by omega), shl_i64_E hE]
    by_cases hf : e + (n : Int) - u - L + 1 ≥ 2 ^ E - 1
    · rw [if_pos hf, if_pos hf]; rfl
    · rw [if_neg hf, if_neg hf]
      obtain ⟨q, hq⟩ : ∃ q : Nat, e + (n : Int) - u - L = q := ⟨(e + (n : Int) - u - L).toNat, by omega⟩
      have hq2 : q + 1 < 2047 := by rcases hbE with ⟨h1, _⟩ | ⟨h1, _⟩ <;> omega
      have hFq : (q + 1) * 2 ^ F + (M - 2 ^ F) < 18446744073709551616 := by
        rcases hbE with ⟨h1, _, hF', _⟩ | ⟨h1, _, hF', _⟩ <;> subst hF' <;> omega
      rw [hq, wrapu_id (n := (q : Int) + 1) (by omega) (by omega), mask_u F (by omega), and_mask M F (by omega) (by omega), hmod]
      have hs := shl_fit (q + 1) F (by omega) (by omega)
      rw [show ((q + 1 : Nat) : Int) = (q : Int) + 1 by omega] at hs
      rw [hs, or_disj (q + 1) (M - 2 ^ F) F (by have : 2 ^ (F + 1) = 2 ^ F * 2 := Nat.pow_succ ..; omega) hFq]
      have e9 : (q + 1) * 2 ^ F + (M - 2 ^ F) = q * 2 ^ F + M := by
        have : (q + 1) * 2 ^ F = q * 2 ^ F + 2 ^ F := by rw [Nat.add_mul, Nat.one_mul]
        omega
      rw [Int.toNat_natCast, e9]
      rfl
theorem fine_far {F E : Int} {m : Nat} {e : Int} (hm0 : m < 18446744073709551616) (he : e < -5000 ∨ 5000 < e) (k : Nat) : bits_format_fine.f (k + 1) F E (m : Int) e = some (0, some 4) := by
  unfold bits_format_fine.f
  have htz : bits_TrailingZeros64.f (m : Int) = some ((Lib.ctz 64 m : Nat) : Int) := by
    unfold bits_TrailingZeros64.f u64ok
    rw [if_pos (u64ok_of hm0), Int.toNat_natCast]
  rw [bind_eq htz, if_pos (by omega)]
  by_cases hc : e > 5000
  · rw [if_pos hc, bits_format_fine.j0, if_pos rfl]
  · rw [if_neg hc, decide_eq_true (by omega), bits_format_fine.j0, if_pos rfl]
end Go.Proofs.YtbjmfocjigikgaaDoor.XiB
end
section
namespace Go.Proofs.YtbjmfocjigikgaaDoor.XiB
open Go.RowKit Go.Proofs.YtbjmfocjigikgaaDoor.Xi Go.Proofs.YtbjmfocjigikgaaDoor.A Go.Proofs.YtbjmfocjigikgaaDoorW.PrintWords Go.Proofs.YtbjmfocjigikgaaDoorW.PrintLast Go.Proofs.YtbjmfocjigikgaaDoorW.PrintMore
set_option linter.unusedSimpArgs false
set_option linter.unusedVariables false

theorem and_one {a : Nat} (ha : a < 18446744073709551616) : Go.bits .and .u64 (a : Int) 1 = ((a % 2 : Nat) : Int) := and_mask a 1 ha (by omega)
/-- The signed bits, or none beside an error. -/
def signv (S : Nat) (neg : Bool) (r : Int × Int) : Int × Int := if r.2 = 0 then (if neg then (r.1 + 2 ^ S, 0) else (r.1, 0)) else (0, r.2)
theorem packv_lt {size F E S : Nat} {L : Int} {I : Nat} (h : IsFmt size F E S L I) {M : Nat} {X : Int} (hM : M < 2 ^ (F + 1)) (hX : L ≤ X) (hf : ¬ X - L + 1 ≥ 2 ^ E - 1) : (X - L).toNat * 2 ^ F + M < 2 ^ S := by
  rcases fmt_E h with ⟨h1, h2, h3, h4⟩ | ⟨h1, h2, h3, h4⟩ <;> rcases h with ⟨_, _, _, hS, _⟩ | ⟨_, hF', _, hS, _⟩ <;> subst h3 <;> subst hS <;> omega
end Go.Proofs.YtbjmfocjigikgaaDoor.XiB
end
section
namespace Go.Proofs.YtbjmfocjigikgaaDoor.XiB
open Go.RowKit Go.Proofs.YtbjmfocjigikgaaDoor.Xi Go.Proofs.YtbjmfocjigikgaaDoor.A Go.Proofs.YtbjmfocjigikgaaDoorW.PrintWords Go.Proofs.YtbjmfocjigikgaaDoorW.PrintLast Go.Proofs.YtbjmfocjigikgaaDoorW.PrintMore
set_option linter.unusedSimpArgs false
set_option linter.unusedVariables false

def errv (c : Int) : Option Int := if c = 0 then none else some c
theorem packv_err (F E : Nat) (L : Int) (M : Nat) (X : Int) : (packv F E L M X).2 = 0 ∨ packv F E L M X = (0, 4) := by
  unfold packv
  by_cases h1 : M < 2 ^ F
  · rw [if_pos h1]; exact .inl rfl
  · rw [if_neg h1]
    by_cases h2 : X - L + 1 ≥ 2 ^ E - 1
    · rw [if_pos h2]; exact .inr rfl
    · rw [if_neg h2]; exact .inl rfl
theorem packv_nat {size F E S : Nat} {L : Int} {I : Nat} (h : IsFmt size F E S L I) {M : Nat} {X : Int} (hM : M < 2 ^ (F + 1)) (hX : L ≤ X) (h0 : (packv F E L M X).2 = 0) : ∃ q : Nat, packv F E L M X = ((q : Int), 0) ∧ q < 2 ^ S := by
  obtain ⟨hF0, hF, hS, hFS, hL, _, hF23⟩ := fmt_small h
  unfold packv at h0 ⊢
  by_cases h1 : M < 2 ^ F
  · rw [if_pos h1]
    exact ⟨M, rfl, Nat.lt_of_lt_of_le h1 (Nat.pow_le_pow_right (by decide) (by omega))⟩
  · rw [if_neg h1] at h0 ⊢
    by_cases h2 : X - L + 1 ≥ 2 ^ E - 1
    · rw [if_pos h2] at h0; exact absurd h0 (by decide)
    · rw [if_neg h2]
      exact ⟨_, rfl, packv_lt h hM hX h2⟩
theorem Pack_rep {size F E S : Nat} {L : Int} {I : Nat} (h : IsFmt size F E S L I) {o n u : Nat} {e : Int} (hm : (2 * o + 1) * 2 ^ n < 18446744073709551616) (hn : Lib.ctz 64 ((2 * o + 1) * 2 ^ n) = n) (hn64 : n < 64)
    (he0 : -5000 ≤ e) (he1 : e ≤ 5000) (hr : Rep F L (e + n) (2 * o + 1) u) (neg : Bool) (k : Nat) :
    bits_Pack.f (k + 2) neg 2 (((2 * o + 1) * 2 ^ n : Nat) : Int) e size = some ((signv S neg (packv F E L ((2 * o + 1) * 2 ^ u) (e + n - u))).1, errv (signv S neg (packv F E L ((2 * o + 1) * 2 ^ u) (e + n - u))).2) := by
  obtain ⟨hF0, hF, hS, hFS, hL, _, hF23⟩ := fmt_small h
  have hpos : 0 < (2 * o + 1) * 2 ^ n := Nat.mul_pos (by omega) (Nat.two_pow_pos n)
  unfold bits_Pack.f
  rw [bind_eq (formatOf_ok h), if_pos (by rfl), if_neg (by decide), if_neg (by decide), if_neg (by decide), if_pos (by rfl), if_neg (by omega), bind_eq (fine_ok h hm hn hn64 he0 he1 hr k)]
  obtain ⟨r1, r2, r3⟩ := hr
  generalize hp : packv F E L ((2 * o + 1) * 2 ^ u) (e + n - u) = p
  rcases packv_err F E L ((2 * o + 1) * 2 ^ u) (e + n - u) with h0 | h0
  · obtain ⟨q, hq, hqS⟩ := packv_nat h r1 (by omega) h0
    rw [hp] at hq
    subst hq
    have hS63 : 2 ^ S ≤ 2 ^ 63 := Nat.pow_le_pow_right (by decide) (by omega)
    have hor := or_disj' 1 q S hqS (by omega)
    rw [Nat.one_mul] at hor
    rw [if_pos (by rfl), bind_eq (sign_ok h)]
    unfold signv errv
    cases neg
    · rfl
    · rw [if_pos rfl, if_pos rfl, if_pos rfl, hor]
      simp only [if_true]
      rw [show ((2 ^ S + q : Nat) : Int) = (q : Int) + 2 ^ S by rw [Int.natCast_add, Int.natCast_pow]; exact Int.add_comm _ _]
  · rw [hp] at h0
    subst h0
    rw [if_neg (by simp)]
    rfl
theorem Pack_far {size F E S : Nat} {L : Int} {I : Nat} (h : IsFmt size F E S L I) {m : Nat} {e : Int} (hm0 : 0 < m) (hm : m < 18446744073709551616) (he : e < -5000 ∨ 5000 < e) (neg : Bool) (k : Nat) :
    bits_Pack.f (k + 1) neg 2 (m : Int) e size = some (0, some 4) := by
  unfold bits_Pack.f
  rw [bind_eq (formatOf_ok h), if_pos (by rfl), if_neg (by decide), if_neg (by decide), if_neg (by decide), if_pos (by rfl), if_neg (by omega), bind_eq (fine_far hm he k), if_neg (by simp)]
  rfl
theorem odd_part {m : Nat} (h0 : 0 < m) (h : m < 18446744073709551616) : ∃ o n, m = (2 * o + 1) * 2 ^ n ∧ Lib.ctz 64 ((2 * o + 1) * 2 ^ n) = n ∧ n < 64 := by
  obtain ⟨o, h1, h2⟩ := ctz_spec h0 h
  exact ⟨o, Lib.ctz 64 m, h1, by rw [← h1], h2⟩
end Go.Proofs.YtbjmfocjigikgaaDoor.XiB
end
section
namespace Go.Proofs.YtbjmfocjigikgaaDoor.XiB
open Go.RowKit Go.Proofs.YtbjmfocjigikgaaDoor.Xi Go.Proofs.YtbjmfocjigikgaaDoor.A Go.Proofs.YtbjmfocjigikgaaDoorW.PrintWords Go.Proofs.YtbjmfocjigikgaaDoorW.PrintLast Go.Proofs.YtbjmfocjigikgaaDoorW.PrintMore
set_option linter.unusedSimpArgs false
set_option linter.unusedVariables false
end Go.Proofs.YtbjmfocjigikgaaDoor.XiB
end
section
namespace Go.Proofs.YtbjmfocjigikgaaDoor.XiB
open Go.RowKit Go.Proofs.YtbjmfocjigikgaaDoor.Xi Go.Proofs.YtbjmfocjigikgaaDoor.A Go.Proofs.YtbjmfocjigikgaaDoorW.PrintWords Go.Proofs.YtbjmfocjigikgaaDoorW.PrintLast Go.Proofs.YtbjmfocjigikgaaDoorW.PrintMore
set_option linter.unusedSimpArgs false
set_option linter.unusedVariables false
theorem odd_unique {o m : Nat} : ∀ {u c : Nat}, (2 * o + 1) * 2 ^ u = (2 * m + 1) * 2 ^ c → u = c
  | 0, 0, _ => rfl
  | 0, c + 1, h => by rw [Nat.pow_succ, ← Nat.mul_assoc, Nat.pow_zero] at h; omega
  | u + 1, 0, h => by rw [Nat.pow_succ, ← Nat.mul_assoc, Nat.pow_zero] at h; omega
  | u + 1, c + 1, h => by
    rw [Nat.pow_succ, Nat.pow_succ, ← Nat.mul_assoc, ← Nat.mul_assoc] at h
    have h2 : (2 * o + 1) * 2 ^ u = (2 * m + 1) * 2 ^ c := by omega
    rw [odd_unique h2]
theorem ctz_mul {o u : Nat} (hm : (2 * o + 1) * 2 ^ u < 18446744073709551616) : Lib.ctz 64 ((2 * o + 1) * 2 ^ u) = u := by
  have hp : 0 < (2 * o + 1) * 2 ^ u := Nat.mul_pos (by omega) (Nat.two_pow_pos u)
  obtain ⟨m, h1, _⟩ := ctz_spec hp hm
  exact (odd_unique h1).symm
end Go.Proofs.YtbjmfocjigikgaaDoor.XiB
end
section
namespace Go.Proofs.YtbjmfocjigikgaaDoor.XiB
open Go.RowKit Go.Proofs.YtbjmfocjigikgaaDoor.Xi Go.Proofs.YtbjmfocjigikgaaDoor.A Go.Proofs.YtbjmfocjigikgaaDoorW.PrintWords Go.Proofs.YtbjmfocjigikgaaDoorW.PrintLast Go.Proofs.YtbjmfocjigikgaaDoorW.PrintMore
set_option linter.unusedSimpArgs false
set_option linter.unusedVariables false
/-- The signed float of a magnitude. -/
def sgn (S : Nat) (neg : Bool) (m : Nat) : Nat := if neg then m + 2 ^ S else m
theorem signv_nat (S : Nat) (neg : Bool) (q : Nat) : signv S neg ((q : Int), 0) = (((sgn S neg q : Nat) : Int), 0) := by
  unfold signv sgn
  cases neg
  · rfl
  · rw [if_pos rfl, if_pos rfl, if_pos rfl, Int.natCast_add, Int.natCast_pow]; rfl
end Go.Proofs.YtbjmfocjigikgaaDoor.XiB
end
section
namespace Go.Proofs.YtbjmfocjigikgaaDoor.XiB
open Go.RowKit Go.Proofs.YtbjmfocjigikgaaDoor.Xi Go.Proofs.YtbjmfocjigikgaaDoor.A Go.Proofs.YtbjmfocjigikgaaDoor.Q Go.Proofs.YtbjmfocjigikgaaDoorW.PrintWords Go.Proofs.YtbjmfocjigikgaaDoorW.PrintLast Go.Proofs.YtbjmfocjigikgaaDoorW.PrintMore
set_option linter.unusedSimpArgs false
set_option linter.unusedVariables false
theorem packv_bits {size F E S : Nat} {L : Int} {I : Nat} (h : IsFmt size F E S L I) {M : Nat} {X : Int} (hM : M < 2 ^ (F + 1)) (hX : L ≤ X) (hn : 2 ^ F ≤ M ∨ X = L) :
    packv F E L M X = if I ≤ (X - L).toNat * 2 ^ F + M then (0, 4) else ((((X - L).toNat * 2 ^ F + M : Nat) : Int), 0) := by
  unfold packv
  by_cases hc : M < 2 ^ F
  · have hXL : X = L := by omega
    subst hXL
    rw [if_pos hc, show (X - X).toNat = 0 by omega, Nat.zero_mul, Nat.zero_add, if_neg]
    rcases h with ⟨rfl, rfl, rfl, rfl, rfl, rfl⟩ | ⟨rfl, rfl, rfl, rfl, rfl, rfl⟩ <;> omega
  · rw [if_neg hc]
    by_cases hf : X - L + 1 ≥ 2 ^ E - 1
    · rw [if_pos hf, if_pos]
      rcases h with ⟨rfl, rfl, rfl, rfl, rfl, rfl⟩ | ⟨rfl, rfl, rfl, rfl, rfl, rfl⟩ <;> omega
    · rw [if_neg hf, if_neg]
      rcases h with ⟨rfl, rfl, rfl, rfl, rfl, rfl⟩ | ⟨rfl, rfl, rfl, rfl, rfl, rfl⟩ <;> omega
/-- What Pack answers for the bits b, if there were no greatest. -/
def outb (S I : Nat) (neg : Bool) (b : Nat) : Int × Option Int := if I ≤ b then (0, some 4) else (((sgn S neg b : Nat) : Int), none)
theorem outb_of {size F E S : Nat} {L : Int} {I : Nat} (h : IsFmt size F E S L I) {M : Nat} {X : Int} (hM : M < 2 ^ (F + 1)) (hX : L ≤ X) (hn : 2 ^ F ≤ M ∨ X = L) (neg : Bool) :
    ((signv S neg (packv F E L M X)).1, errv (signv S neg (packv F E L M X)).2) = outb S I neg ((X - L).toNat * 2 ^ F + M) := by
  rw [packv_bits h hM hX hn]
  unfold outb
  by_cases hc : I ≤ (X - L).toNat * 2 ^ F + M
  · rw [if_pos hc, if_pos hc]; rfl
  · rw [if_neg hc, if_neg hc, signv_nat]; rfl
theorem Pack_val {size F E S : Nat} {L : Int} {I : Nat} (h : IsFmt size F E S L I) {m d : Nat} {e : Int} (h0 : 0 < m) (hm : m < 18446744073709551616) (he0 : -5000 ≤ e) (he1 : e ≤ 5000)
    (hM : m * 2 ^ d < 2 ^ (F + 1)) (hX : L ≤ e - d) (hn : 2 ^ F ≤ m * 2 ^ d ∨ e - d = L) (neg : Bool) (k : Nat) :
    bits_Pack.f (k + 2) neg 2 (m : Int) e size = some (outb S I neg ((e - d - L).toNat * 2 ^ F + m * 2 ^ d)) := by
  obtain ⟨o, n, rfl, hz, hn64⟩ := odd_part h0 hm
  have hassoc : (2 * o + 1) * 2 ^ n * 2 ^ d = (2 * o + 1) * 2 ^ (n + d) := by rw [Nat.pow_add, Nat.mul_assoc]
  have hp := Pack_rep h hm hz hn64 he0 he1 (u := n + d) ⟨by rw [← hassoc]; exact hM, by omega, by rw [← hassoc]; omega⟩ neg k
  rw [hp, ← hassoc, show e + (n : Int) - ((n + d : Nat) : Int) = e - d by omega, outb_of h hM hX hn]
theorem Pack_carry {size F E S : Nat} {L : Int} {I : Nat} (h : IsFmt size F E S L I) {X : Int} (hX : L ≤ X) (hX2 : X ≤ 5000) (neg : Bool) (k : Nat) :
    bits_Pack.f (k + 2) neg 2 ((2 ^ (F + 1) : Nat) : Int) X size = some (outb S I neg ((X - L).toNat * 2 ^ F + 2 ^ (F + 1))) := by
  obtain ⟨hF0, hF, hS, hFS, hL, _, hF23⟩ := fmt_small h
  have h64 : 2 ^ (F + 1) < 18446744073709551616 := by
    have : 2 ^ (F + 1) < 2 ^ 64 := Nat.pow_lt_pow_right (by decide) (by omega)
    omega
  have e1 : (2 * 0 + 1) * 2 ^ (F + 1) = 2 ^ (F + 1) := by omega
  have e2 : (2 * 0 + 1) * 2 ^ F = 2 ^ F := by omega
  have es : 2 ^ (F + 1) = 2 ^ F * 2 := Nat.pow_succ ..
  have hp := Pack_rep h (o := 0) (n := F + 1) (by rw [e1]; exact h64) (ctz_mul (by rw [e1]; exact h64)) (by omega) (e := X) (by omega) (by omega) (u := F) ⟨by rw [e2]; have := Nat.two_pow_pos F; omega, by omega, .inl (by rw [e2]; exact Nat.le_refl _)⟩ neg k
  rw [e1, e2, show X + ((F + 1 : Nat) : Int) - (F : Int) = X + 1 by omega] at hp
  rw [hp, outb_of h (by have := Nat.two_pow_pos F; omega) (by omega) (.inl (Nat.le_refl _))]
  have e3 : (X + 1 - L).toNat * 2 ^ F + 2 ^ F = (X - L).toNat * 2 ^ F + 2 ^ (F + 1) := by
    rw [show (X + 1 - L).toNat = (X - L).toNat + 1 by omega, Nat.add_mul]; omega
  rw [e3]
end Go.Proofs.YtbjmfocjigikgaaDoor.XiB
end
section
namespace Go.Proofs.YtbjmfocjigikgaaDoor.XiB
open Go.RowKit Go.Proofs.YtbjmfocjigikgaaDoor.Xi Go.Proofs.YtbjmfocjigikgaaDoor.A Go.Proofs.YtbjmfocjigikgaaDoor.Q Go.Proofs.YtbjmfocjigikgaaDoorW.PrintWords Go.Proofs.YtbjmfocjigikgaaDoorW.PrintLast Go.Proofs.YtbjmfocjigikgaaDoorW.PrintMore
set_option linter.unusedSimpArgs false
set_option linter.unusedVariables false
theorem Pack_zero' {size F E S : Nat} {L : Int} {I : Nat} (h : IsFmt size F E S L I) (k : Nat) (neg : Bool) (m e : Int) : bits_Pack.f k neg 1 m e size = some (((sgn S neg 0 : Nat) : Int), none) := by
  rw [Pack_zero h]; unfold sgn
  cases neg
  · rfl
  · rw [if_pos rfl, if_pos rfl, Nat.zero_add]
theorem Pack_inf' {size F E S : Nat} {L : Int} {I : Nat} (h : IsFmt size F E S L I) (k : Nat) (neg : Bool) (m e : Int) : bits_Pack.f k neg 3 m e size = some (((sgn S neg I : Nat) : Int), none) := Pack_inf h k neg m e
end Go.Proofs.YtbjmfocjigikgaaDoor.XiB
end
section
namespace Go.Proofs.YtbjmfocjigikgaaDoor.XiB
open Go.RowKit Go.Proofs.YtbjmfocjigikgaaDoor.Xi Go.Proofs.YtbjmfocjigikgaaDoor.A Go.Proofs.YtbjmfocjigikgaaDoorW.PrintWords Go.Proofs.YtbjmfocjigikgaaDoorW.PrintLast Go.Proofs.YtbjmfocjigikgaaDoorW.PrintMore
set_option linter.unusedSimpArgs false
set_option linter.unusedVariables false
def pv (S : Nat) (neg : Bool) : Option Nat → Int × Option Int
  | some q => (((sgn S neg q : Nat) : Int), none)
  | none => (0, some 4)
def rv (S : Nat) (neg : Bool) : Option Nat → Int × Int
  | some q => (((sgn S neg q : Nat) : Int), 0)
  | none => (0, 4)
/-- What both answer: the rounded mantissa Q times two to the last, with its sign; the greatest where it is beyond. -/
def ans (S I : Nat) (neg : Bool) (Q : Nat) (b : Option Nat) : Int × Int :=
  if Q = 0 then (((sgn S neg 0 : Nat) : Int), 0) else match b with
    | some q => (((sgn S neg q : Nat) : Int), 0)
    | none => (((sgn S neg I : Nat) : Int), 4)
end Go.Proofs.YtbjmfocjigikgaaDoor.XiB
end
section
namespace Go.Proofs.YtbjmfocjigikgaaDoor.XiH
open Go.RowKit Go.Proofs.YtbjmfocjigikgaaDoor.Xi Go.Proofs.YtbjmfocjigikgaaDoor.A Go.Proofs.YtbjmfocjigikgaaDoor.L Go.Proofs.YtbjmfocjigikgaaDoorW.PrintWords Go.Proofs.YtbjmfocjigikgaaDoorW.PrintLast Go.Proofs.YtbjmfocjigikgaaDoorW.PrintMore
set_option linter.unusedSimpArgs false
set_option linter.unusedVariables false
theorem bind_eqh {α β : Type} {o : Option α} {x : α} {f : α → Option β} (h : o = some x) : o.bind f = f x := by rw [h]; rfl
theorem rd_nat (l : List Int) (i : Nat) : rd l (i : Int) = l.getD i 0 := by unfold rd; rw [Int.toNat_natCast]
theorem dig_at {B : Nat} {l : List Int} (h : okl B l) (hB : 0 < B) (i : Nat) : ∃ x : Nat, rd l (i : Int) = x ∧ x < B ∧ (l.getD i 0).toNat = x := by
  have h1 := okl_get h i hB
  refine ⟨(l.getD i 0).toNat, ?_, by omega, rfl⟩
  rw [rd_nat]; omega
theorem nv_take_step (B : Nat) (l : List Int) (i : Nat) : nv B (l.take (i + 1)) = nv B (l.take i) + B ^ i * (l.getD i 0).toNat := by
  rcases Nat.lt_or_ge i l.length with h | h
  · exact nv_take_succ B h
  · rw [List.take_of_length_le (by omega), List.take_of_length_le h]
    have : l.getD i 0 = 0 := by simp [List.getD, h]
    rw [this]; rfl
theorem add_step {P B a s x y c d c' : Nat} (h : s + P * c = a) (hd : d + B * c' = x + y + c) : s + P * d + P * B * c' = a + P * x + P * y := by
  have h2 := congrArg (P * ·) hd
  simp only [Nat.mul_add] at h2
  rw [Nat.mul_assoc]; omega
theorem sub_step {P B a b s x y w d w' : Nat} (h : s + b = a + P * w) (hd : d + y + w = x + B * w') : s + P * d + (b + P * y) = a + P * x + P * B * w' := by
  have h2 := congrArg (P * ·) hd
  simp only [Nat.mul_add] at h2
  rw [Nat.mul_assoc]; omega
def B64 : Nat := 18446744073709551616
def B32 : Nat := 4294967296
theorem b64_pos : 0 < B64 := by decide
theorem b64_one : 1 < B64 := by decide
theorem okl_of_wf {l : List Int} (h : ∀ x ∈ l, (Lit.int .u64 x).wf = true) : okl B64 l := fun x hx => wf_u64 (h x hx)
def errn (c : Int) : Option Int := if c = 0 then none else some c
/-- The number of a row's error. -/
def vnum (l : List Int) : Int := if 128 < l.length then 20 else if 0 < l.length ∧ l.getD (l.length - 1) 0 = 0 then 1 else 0
theorem last_getD {l : List Int} (h : l ≠ []) : l.getLast? = some (l.getD (l.length - 1) 0) := by
  have h0 : 0 < l.length := List.length_pos_iff.2 h
  rw [List.getLast?_eq_getElem?]
  have h1 : l.length - 1 < l.length := by omega
  simp [List.getD, h1]
theorem top_iff (l : List Int) : top l ↔ ¬ (0 < l.length ∧ l.getD (l.length - 1) 0 = 0) := by
  by_cases h : l = []
  · subst h; simp [top]
  · have h0 : 0 < l.length := List.length_pos_iff.2 h
    unfold top
    rw [last_getD h]
    constructor
    · intro h1 h2; exact h1 _ rfl h2.2
    · intro h1 x hx h2; injection hx with hx; subst hx; exact h1 ⟨h0, h2⟩
theorem vnum_zero (l : List Int) : vnum l = 0 ↔ l.length ≤ 128 ∧ top l := by
  rw [top_iff]; unfold vnum
  by_cases h : 128 < l.length
  · rw [if_pos h]; exact ⟨fun h3 => absurd h3 (by decide), fun h3 => by omega⟩
  · rw [if_neg h]
    by_cases h2 : 0 < l.length ∧ l.getD (l.length - 1) 0 = 0
    · rw [if_pos h2]; exact ⟨fun h3 => absurd h3 (by decide), fun h3 => absurd h2 h3.2⟩
    · rw [if_neg h2]; exact ⟨fun _ => ⟨by omega, h2⟩, fun _ => rfl⟩
theorem rd_last {l : List Int} (h0 : 0 < l.length) (hl : l.length < 1000000000000000) : 0 ≤ wrap64 ((l.length : Int) - 1) ∧ wrap64 ((l.length : Int) - 1) < l.length ∧ rd l (wrap64 ((l.length : Int) - 1)) = l.getD (l.length - 1) 0 := by
  rw [wrapi_id (by omega) (by omega)]
  refine ⟨by omega, by omega, ?_⟩
  unfold rd
  rw [show ((l.length : Int) - 1).toNat = l.length - 1 by omega]
theorem rValid_ok {l : List Int} (hl : l.length < 1000000000000000) : numeralref02_Valid.f l = some (vnum l) := by
  unfold numeralref02_Valid.f vnum
  by_cases h : 128 < l.length
  · rw [if_pos (by omega), if_pos h]
  · rw [if_neg (by omega), if_neg h]
    by_cases h0 : 0 < l.length
    · obtain ⟨r1, r2, r3⟩ := rd_last h0 hl
      rw [if_pos (by omega), if_pos r1, if_pos r2, r3]
      by_cases h2 : l.getD (l.length - 1) 0 = 0
      · rw [if_pos h2, if_pos ⟨h0, h2⟩]
      · rw [if_neg h2, if_neg (fun h3 => h2 h3.2)]
    · rw [if_neg (by omega), if_neg (fun h3 => h0 h3.1)]
theorem Valid_ok {l : List Int} (hl : l.length < 1000000000000000) : nat_Valid.f l = some (errn (vnum l)) := by
  unfold nat_Valid.f vnum
  by_cases h : 128 < l.length
  · rw [if_pos (by omega), if_pos h]; rfl
  · rw [if_neg (by omega), if_neg h]
    by_cases h0 : 0 < l.length
    · obtain ⟨r1, r2, r3⟩ := rd_last h0 hl
      rw [if_pos (by omega), if_pos r1, if_pos r2, r3]
      by_cases h2 : l.getD (l.length - 1) 0 = 0
      · rw [if_pos h2, if_pos ⟨h0, h2⟩]; rfl
      · rw [if_neg h2, if_neg (fun h3 => h2 h3.2)]; rfl
    · rw [if_neg (by omega), if_neg (fun h3 => h0 h3.1)]; rfl
/-- The number of two rows' error. -/
def vtwo (a b : List Int) : Int := if vnum a = 0 then vnum b else vnum a
theorem valid_ok {a b : List Int} (ha : a.length < 1000000000000000) (hb : b.length < 1000000000000000) : nat_valid.f a b = some (errn (vtwo a b)) := by
  unfold nat_valid.f vtwo
  rw [bind_eqh (Valid_ok ha)]
  by_cases h : vnum a = 0
  · rw [if_pos h, if_pos (by unfold errn; rw [if_pos h]; rfl), bind_eqh (Valid_ok hb)]
  · rw [if_neg h, if_neg (by unfold errn; rw [if_neg h]; simp)]
    unfold errn; rw [if_neg h]; rfl
theorem errn_isNone (c : Int) : (errn c).isNone = true ↔ c = 0 := by
  unfold errn
  by_cases h : c = 0
  · rw [if_pos h]; simp [h]
  · rw [if_neg h]; simp [h]
/-! trimming -/
theorem trim_l0 (l : List Int) (hl : l.length < 1000000000000000) : ∀ (n k : Nat), n ≤ l.length → n + 1 ≤ k → ∃ m, m ≤ n ∧ nat_trim.l0 k l (n : Int) = some (l.take m) ∧ top (l.take m) ∧ (∀ B, nv B (l.take m) = nv B (l.take n))
  | 0, k + 1, hn, hk => by
    refine ⟨0, Nat.le_refl _, ?_, top_nil, fun _ => rfl⟩
    rw [nat_trim.l0, if_neg (by omega), if_pos (by omega), if_pos (by omega)]; rfl
  | n + 1, k + 1, hn, hk => by
    rw [nat_trim.l0, if_pos (by omega), wrapi_id (n := ((n + 1 : Nat) : Int) - 1) (by omega) (by omega), show ((n + 1 : Nat) : Int) - 1 = (n : Int) by omega, if_pos (by omega), if_pos (by omega)]
    by_cases h0 : rd l (n : Int) = 0
    · obtain ⟨m, hm, hr, ht, hv⟩ := trim_l0 l hl n k (by omega) (by omega)
      refine ⟨m, by omega, by rw [if_pos h0]; exact hr, ht, fun B => ?_⟩
      rw [hv, nv_take_step, ← rd_nat, h0]; rfl
    · refine ⟨n + 1, Nat.le_refl _, ?_, ?_, fun _ => rfl⟩
      · rw [if_neg h0, if_pos (by omega), if_pos (by omega), Int.toNat_natCast]
      · rw [take_get (by omega), ← rd_nat]; exact top_snoc h0
theorem trim_ok {l : List Int} (hl : l.length < 1000000000000000) {k : Nat} (hk : l.length + 1 ≤ k) : ∃ m, m ≤ l.length ∧ nat_trim.f k l = some (l.take m) ∧ top (l.take m) ∧ (∀ B, nv B (l.take m) = nv B l) := by
  obtain ⟨m, h1, h2, h3, h4⟩ := trim_l0 l hl l.length k (Nat.le_refl _) hk
  refine ⟨m, h1, h2, h3, fun B => ?_⟩
  rw [h4, List.take_length]
/-- What is kept of a row: its number, with no nought on top, or the error. -/
theorem kept_ok {l : List Int} (ho : okl B64 l) (hl : l.length < 1000000000000000) {k : Nat} (hk : l.length + 1 ≤ k) : ∃ t, okl B64 t ∧ top t ∧ nv B64 t = nv B64 l ∧ nat_kept.f k l = if 128 < t.length then some ([], some 20) else some (t, none) := by
  obtain ⟨m, h1, h2, h3, h4⟩ := trim_ok hl hk
  refine ⟨l.take m, okl_take ho m, h3, h4 B64, ?_⟩
  unfold nat_kept.f
  rw [bind_eqh h2]
  by_cases h : 128 < (l.take m).length
  · rw [if_pos (by omega), if_pos h]
  · rw [if_neg (by omega), if_neg h]
/-! words as digits of 32 bits -/
/-! digits of 32 bits as words -/
end Go.Proofs.YtbjmfocjigikgaaDoor.XiH
end
section
namespace Go.Proofs.YtbjmfocjigikgaaDoor.XiH
open Go.RowKit Go.Proofs.YtbjmfocjigikgaaDoor.Xi Go.Proofs.YtbjmfocjigikgaaDoor.A Go.Proofs.YtbjmfocjigikgaaDoor.L Go.Proofs.YtbjmfocjigikgaaDoorW.PrintWords Go.Proofs.YtbjmfocjigikgaaDoorW.PrintLast Go.Proofs.YtbjmfocjigikgaaDoorW.PrintMore
set_option linter.unusedSimpArgs false
set_option linter.unusedVariables false
theorem u64ok_nat {a : Nat} (h : a < 18446744073709551616) : u64ok (a : Int) = true := decide_eq_true ⟨by omega, by omega⟩
theorem add64_ok {x y c : Nat} (hx : x < B64) (hy : y < B64) (hc : c ≤ 1) : bits_Add64.f (x : Int) (y : Int) (c : Int) = some ((((x + y + c) % B64 : Nat) : Int), (((x + y + c) / B64 : Nat) : Int)) := by
  have hx' : x < 18446744073709551616 := hx
  have hy' : y < 18446744073709551616 := hy
  have hcc : (((c : Int) == 0) || ((c : Int) == 1)) = true := by
    rcases (by omega : c = 0 ∨ c = 1) with rfl | rfl <;> rfl
  unfold bits_Add64.f
  rw [u64ok_nat hx', u64ok_nat hy', hcc, if_pos (by rfl)]
  unfold B64
  rw [show ((x : Int) + (y : Int) + (c : Int)) = ((x + y + c : Nat) : Int) by omega]
  rfl
theorem sub64_ok {x y c : Nat} (hx : x < B64) (hy : y < B64) (hc : c ≤ 1) : bits_Sub64.f (x : Int) (y : Int) (c : Int) = some ((((x + B64 - y - c) % B64 : Nat) : Int), ((if x < y + c then 1 else 0 : Nat) : Int)) := by
  have hx' : x < 18446744073709551616 := hx
  have hy' : y < 18446744073709551616 := hy
  have hcc : (((c : Int) == 0) || ((c : Int) == 1)) = true := by
    rcases (by omega : c = 0 ∨ c = 1) with rfl | rfl <;> rfl
  unfold bits_Sub64.f
  rw [u64ok_nat hx', u64ok_nat hy', hcc, if_pos (by rfl)]
  unfold B64
  have e1 : ((x : Int) + 18446744073709551616 - (y : Int) - (c : Int)) % 18446744073709551616 = (((x + 18446744073709551616 - y - c) % 18446744073709551616 : Nat) : Int) := by omega
  have e2 : (if (x : Int) < (y : Int) + (c : Int) then (1 : Int) else 0) = ((if x < y + c then 1 else 0 : Nat) : Int) := by
    by_cases h : x < y + c
    · rw [if_pos (by omega), if_pos h]; rfl
    · rw [if_neg (by omega), if_neg h]; rfl
  rw [e1, e2]
theorem take_set_succ {l : List Int} {i : Nat} (x : Int) (hi : i < l.length) : (l.set i x).take (i + 1) = l.take i ++ [x] := by
  rw [take_get (by rw [List.length_set]; exact hi)]
  congr 1
  · rw [List.take_set, List.set_eq_of_length_le (by rw [List.length_take]; omega)]
  · simp [List.getD, hi]
/-! the program's sum -/
theorem add_l0 {a b : List Int} (ha : okl B64 a) (hb : okl B64 b) (hl : a.length ≤ 128) (hba : b.length ≤ a.length) : ∀ (n k i c : Nat) (out : List Int), i + n = a.length → n + 200 ≤ k → okl B64 out → out.length = a.length → c ≤ 1 →
    nv B64 (out.take i) + B64 ^ i * c = nv B64 (a.take i) + nv B64 (b.take i) →
    ∃ t, okl B64 t ∧ top t ∧ nv B64 t = nv B64 a + nv B64 b ∧ nat_Add.l0 k a b out (c : Int) (a.length : Int) (i : Int) = if 128 < t.length then some ([], some 20) else some (t, none) := by
  intro n
  induction n with
  | zero =>
    intro k i c out hi hk ho hlen hc hv
    obtain ⟨k, rfl⟩ : ∃ q, k = q + 1 := ⟨k - 1, by omega⟩
    have hoc : okl B64 (out ++ [(c : Int)]) := by
      rw [okl_append]
      refine ⟨ho, okl_cons.2 ⟨⟨by omega, ?_⟩, okl_nil _⟩⟩
      show _ < ((18446744073709551616 : Nat) : Int); omega
    obtain ⟨t, t1, t2, t3, t4⟩ := kept_ok hoc (by simp; omega) (k := k) (by simp; omega)
    refine ⟨t, t1, t2, ?_, ?_⟩
    · rw [t3, nv_snoc, hlen, Int.toNat_natCast]
      rw [List.take_of_length_le (by omega), List.take_of_length_le (by omega), List.take_of_length_le (by omega), show i = a.length by omega] at hv
      exact hv
    · rw [nat_Add.l0, if_neg (by omega), if_pos (by omega)]
      by_cases h : 128 < t.length
      · rw [if_pos h] at t4 ⊢; rw [bind_eqh t4]
      · rw [if_neg h] at t4 ⊢; rw [bind_eqh t4]
  | succ n ih =>
    intro k i c out hi hk ho hlen hc hv
    obtain ⟨k, rfl⟩ : ∃ q, k = q + 1 := ⟨k - 1, by omega⟩
    obtain ⟨x, hx, hxB, hxn⟩ := dig_at ha b64_pos i
    obtain ⟨y, hy, hyB, hyn⟩ := dig_at hb b64_pos i
    have hmod := Nat.mod_lt (x + y + c) b64_pos
    have hc' : (x + y + c) / B64 ≤ 1 := by
      have h1 : x + y + c < 2 * B64 := by omega
      have := (Nat.div_lt_iff_lt_mul b64_pos).2 h1
      omega
    have hset : okl B64 (out.set i (((x + y + c) % B64 : Nat) : Int)) := okl_set ho i ⟨by omega, by omega⟩
    have hstep := add_step (P := B64 ^ i) (B := B64) (x := x) (y := y) (d := (x + y + c) % B64) (c' := (x + y + c) / B64) hv (Nat.mod_add_div (x + y + c) B64)
    have hv2 : nv B64 ((out.set i (((x + y + c) % B64 : Nat) : Int)).take (i + 1)) + B64 ^ (i + 1) * ((x + y + c) / B64) = nv B64 (a.take (i + 1)) + nv B64 (b.take (i + 1)) := by
      rw [take_set_succ _ (by omega), nv_snoc, List.length_take, Nat.min_eq_left (by omega), nv_take_step, nv_take_step, hxn, hyn, Int.toNat_natCast, Nat.pow_succ]
      omega
    obtain ⟨t, t1, t2, t3, t4⟩ := ih k (i + 1) ((x + y + c) / B64) _ (by omega) (by omega) hset (by rw [List.length_set]; exact hlen) hc' hv2
    refine ⟨t, t1, t2, t3, ?_⟩
    rw [← t4, nat_Add.l0, if_pos (by omega)]
    have hgo : ∀ w : Int, w = (y : Int) → ((bits_Add64.f (rd a (i : Int)) w (c : Int)).bind fun bt => (if (i : Int) < (out.length : Int) then (nat_Add.l0 k a b (out.set ((i : Int) : Int).toNat bt.1) bt.2 (a.length : Int) (wrap64 ((i : Int) + 1))) else (none))) = nat_Add.l0 k a b (out.set i (((x + y + c) % B64 : Nat) : Int)) (((x + y + c) / B64 : Nat) : Int) (a.length : Int) ((i + 1 : Nat) : Int) := by
      rintro w rfl
      rw [hx, bind_eqh (add64_ok hxB hyB hc), if_pos (by omega), Int.toNat_natCast, wrapi_id (n := (i : Int) + 1) (by omega) (by omega)]
      rfl
    by_cases hib : i < b.length
    · rw [if_pos (by omega), if_pos (by omega), if_pos (by omega)]
      exact hgo _ hy
    · rw [if_neg (by omega), if_pos (by omega), if_pos (by omega)]
      refine hgo 0 ?_
      have : b.getD i 0 = 0 := by simp [List.getD, hib]
      rw [this] at hyn
      rw [← hyn]; rfl
theorem add_l100 : ∀ (k : Nat) (a b out : List Int) (c n i : Int), nat_Add.l100 k a b out c n i = nat_Add.l0 k a b out c n i
  | 0, _, _, _, _, _, _ => rfl
  | k + 1, a, b, out, c, n, i => by
    rw [nat_Add.l100, nat_Add.l0]
    simp only [add_l100 k]
theorem Add_ok {a b : List Int} (ha : okl B64 a) (hb : okl B64 b) (hla : a.length ≤ 128) (hlb : b.length ≤ 128) (hv : vtwo a b = 0) {k : Nat} (hk : 400 ≤ k) :
    ∃ t, okl B64 t ∧ top t ∧ nv B64 t = nv B64 a + nv B64 b ∧ nat_Add.f k a b = if 128 < t.length then some ([], some 20) else some (t, none) := by
  have hval : nat_valid.f a b = some none := by rw [valid_ok (by omega) (by omega), hv]; rfl
  by_cases h : a.length < b.length
  · obtain ⟨t, t1, t2, t3, t4⟩ := add_l0 hb ha hlb (by omega) b.length k 0 0 (List.replicate b.length 0) (by omega) (by omega) (okl_zeros _ _ b64_pos) (by simp) (by omega) (by simp [nv])
    refine ⟨t, t1, t2, by omega, ?_⟩
    rw [← t4]
    unfold nat_Add.f
    rw [bind_eqh hval, if_pos (by rfl), if_pos (by omega), if_pos (by omega), wrapi_id (n := (b.length : Int) + 1) (by omega) (by omega), if_pos (by omega), if_pos (by omega), Int.toNat_natCast]
    rfl
  · obtain ⟨t, t1, t2, t3, t4⟩ := add_l0 ha hb hla (by omega) a.length k 0 0 (List.replicate a.length 0) (by omega) (by omega) (okl_zeros _ _ b64_pos) (by simp) (by omega) (by simp [nv])
    refine ⟨t, t1, t2, t3, ?_⟩
    rw [← t4]
    unfold nat_Add.f
    rw [bind_eqh hval, if_pos (by rfl), if_neg (by omega), if_pos (by omega), wrapi_id (n := (a.length : Int) + 1) (by omega) (by omega), if_pos (by omega), if_pos (by omega), Int.toNat_natCast, add_l100]
    rfl
/-! the reference's sum -/
/-! the order -/
def cmpn (a b : Nat) : Int := if a < b then -1 else if a > b then 1 else 0
theorem cmp_step {B : Nat} (hB : 0 < B) {a b : List Int} (ha : okl B a) (hb : okl B b) (i : Nat) {x y : Nat} (hx : (a.getD i 0).toNat = x) (hy : (b.getD i 0).toNat = y) (hla : i < a.length) (hlb : i < b.length) :
    (x < y → nv B (a.take (i + 1)) < nv B (b.take (i + 1))) ∧ (y < x → nv B (b.take (i + 1)) < nv B (a.take (i + 1))) ∧ (x = y → cmpn (nv B (a.take (i + 1))) (nv B (b.take (i + 1))) = cmpn (nv B (a.take i)) (nv B (b.take i))) := by
  have h1 := nv_lt hB (okl_take ha i)
  have h2 := nv_lt hB (okl_take hb i)
  rw [List.length_take, Nat.min_eq_left (by omega)] at h1 h2
  rw [nv_take_step, nv_take_step, hx, hy]
  generalize nv B (a.take i) = p at *
  generalize nv B (b.take i) = q at *
  refine ⟨fun h => ?_, fun h => ?_, fun h => ?_⟩
  · have := Nat.mul_le_mul_left (B ^ i) (show x + 1 ≤ y from h)
    rw [Nat.mul_add, Nat.mul_one] at this
    omega
  · have := Nat.mul_le_mul_left (B ^ i) (show y + 1 ≤ x from h)
    rw [Nat.mul_add, Nat.mul_one] at this
    omega
  · subst h
    unfold cmpn
    generalize B ^ i * x = z
    by_cases h3 : p < q
    · rw [if_pos h3, if_pos (by omega)]
    · rw [if_neg h3, if_neg (by omega)]
      by_cases h4 : p > q
      · rw [if_pos h4, if_pos (by omega)]
      · rw [if_neg h4, if_neg (by omega)]
end Go.Proofs.YtbjmfocjigikgaaDoor.XiH
end
section
namespace Go.Proofs.YtbjmfocjigikgaaDoor.XiH
open Go.RowKit Go.Proofs.YtbjmfocjigikgaaDoor.Xi Go.Proofs.YtbjmfocjigikgaaDoor.A Go.Proofs.YtbjmfocjigikgaaDoor.L Go.Proofs.YtbjmfocjigikgaaDoorW.PrintWords Go.Proofs.YtbjmfocjigikgaaDoorW.PrintLast Go.Proofs.YtbjmfocjigikgaaDoorW.PrintMore
set_option linter.unusedSimpArgs false
set_option linter.unusedVariables false
/-! differences -/
theorem borrow_eq {B x y c : Nat} (hx : x < B) (hy : y < B) (hc : c ≤ 1) : (x + B - y - c) % B + y + c = x + B * (if x < y + c then 1 else 0) := by
  by_cases h : x < y + c
  · rw [if_pos h]
    rcases Nat.lt_or_ge (x + B) (y + c) with h2 | h2
    · omega
    · rw [Nat.mod_eq_of_lt (by omega)]; omega
  · rw [if_neg h, show x + B - y - c = (x - y - c) + B by omega, Nat.add_mod_right, Nat.mod_eq_of_lt (by omega)]; omega
theorem cmpn_neg (a b : Nat) : cmpn a b < 0 ↔ a < b := by
  unfold cmpn
  by_cases h : a < b
  · rw [if_pos h]; simp [h]
  · rw [if_neg h]
    by_cases h2 : a > b
    · rw [if_pos h2]; simp [h]
    · rw [if_neg h2]; simp [h]
/-! the law's own -/
end Go.Proofs.YtbjmfocjigikgaaDoor.XiH
end
section
namespace Go.Proofs.YtbjmfocjigikgaaDoor.XiH
open Go.RowKit Go.Proofs.YtbjmfocjigikgaaDoor.Xi Go.Proofs.YtbjmfocjigikgaaDoor.A Go.Proofs.YtbjmfocjigikgaaDoor.L Go.Proofs.YtbjmfocjigikgaaDoorW.PrintWords Go.Proofs.YtbjmfocjigikgaaDoorW.PrintLast Go.Proofs.YtbjmfocjigikgaaDoorW.PrintMore
set_option linter.unusedSimpArgs false
set_option linter.unusedVariables false
/-- L binary digits has n. -/
def bl (n L : Nat) : Prop := n < 2 ^ L ∧ (0 < n → 0 < L ∧ 2 ^ (L - 1) ≤ n) ∧ (n = 0 → L = 0)
end Go.Proofs.YtbjmfocjigikgaaDoor.XiH
end
section
namespace Go.Proofs.YtbjmfocjigikgaaDoor.XiH
open Go.RowKit Go.Proofs.YtbjmfocjigikgaaDoor.Xi Go.Proofs.YtbjmfocjigikgaaDoor.A Go.Proofs.YtbjmfocjigikgaaDoor.L Go.Proofs.YtbjmfocjigikgaaDoorW.PrintWords Go.Proofs.YtbjmfocjigikgaaDoorW.PrintLast Go.Proofs.YtbjmfocjigikgaaDoorW.PrintMore
set_option linter.unusedSimpArgs false
set_option linter.unusedVariables false
end Go.Proofs.YtbjmfocjigikgaaDoor.XiH
end
section
namespace Go.Proofs.YtbjmfocjigikgaaDoor.XiH
open Go.RowKit Go.Proofs.YtbjmfocjigikgaaDoor.Xi Go.Proofs.YtbjmfocjigikgaaDoor.A Go.Proofs.YtbjmfocjigikgaaDoor.L Go.Proofs.YtbjmfocjigikgaaDoorW.PrintWords Go.Proofs.YtbjmfocjigikgaaDoorW.PrintLast Go.Proofs.YtbjmfocjigikgaaDoorW.PrintMore
set_option linter.unusedSimpArgs false
set_option linter.unusedVariables false
/-! ### the quotient by a word -/
/-! ### powers -/
end Go.Proofs.YtbjmfocjigikgaaDoor.XiH
end
section
namespace Go.Proofs.YtbjmfocjigikgaaDoor.XiB
open Go.RowKit Go.Proofs.YtbjmfocjigikgaaDoor.Xi Go.Proofs.YtbjmfocjigikgaaDoor.A Go.Proofs.YtbjmfocjigikgaaDoor.L Go.Proofs.YtbjmfocjigikgaaDoor.Q Go.Proofs.YtbjmfocjigikgaaDoor.XiH Go.Proofs.YtbjmfocjigikgaaDoorW.PrintWords Go.Proofs.YtbjmfocjigikgaaDoorW.PrintLast Go.Proofs.YtbjmfocjigikgaaDoorW.PrintMore
set_option linter.unusedSimpArgs false
set_option linter.unusedVariables false
theorem mx_int (a b : Int) : mx a b = max a b := by unfold mx; split <;> omega
theorem rInfv_ok {size F E S : Nat} {L : Int} {I : Nat} (h : IsFmt size F E S L I) : numeralref11_Inf.f size = some (I : Int) := by
  unfold numeralref11_Inf.f; rw [bind_eq (rinf_ok h)]
/-- The exponent of the first bit, by both lengths. -/
theorem fb_of {n d Ln Ld : Nat} (hn0 : 0 < n) (hd0 : 0 < d) (hn : bl n Ln) (hd : bl d Ld) :
    fb n d (if n * pd ((Ln : Int) - Ld) < d * pu ((Ln : Int) - Ld) then (Ln : Int) - Ld - 1 else (Ln : Int) - Ld) := by
  obtain ⟨n1, n2, _⟩ := hn
  obtain ⟨d1, d2, _⟩ := hd
  obtain ⟨n2, n3⟩ := n2 hn0
  obtain ⟨d2, d3⟩ := d2 hd0
  generalize hE : (Ln : Int) - Ld = e
  by_cases h : n * pd e < d * pu e
  · rw [if_pos h]
    refine ⟨?_, ?_⟩
    · have a1 : d * pu (e - 1) ≤ 2 ^ Ld * pu (e - 1) := Nat.mul_le_mul_right _ (by omega)
      have a2 : 2 ^ (Ln - 1) * pd (e - 1) ≤ n * pd (e - 1) := Nat.mul_le_mul_right _ n3
      have a3 : 2 ^ Ld * pu (e - 1) = 2 ^ (Ln - 1) * pd (e - 1) := by
        unfold pu pd
        rw [← Nat.pow_add, ← Nat.pow_add]; congr 1; omega
      omega
    · have a1 : n * pd e * pd (e - 1) < d * pu e * pd (e - 1) := Nat.mul_lt_mul_of_pos_right h (pd_pos _)
      have a2 : pu e * pd (e - 1) = 2 * (pu (e - 1) * pd e) := by
        unfold pu pd
        rw [← Nat.pow_add, ← Nat.pow_add, Nat.mul_comm 2, ← Nat.pow_succ]; congr 1; omega
      have a3 : n * pd (e - 1) * pd e < 2 * (d * pu (e - 1)) * pd e := by
        calc n * pd (e - 1) * pd e = n * pd e * pd (e - 1) := by rw [Nat.mul_assoc, Nat.mul_assoc, Nat.mul_comm (pd e)]
          _ < d * pu e * pd (e - 1) := a1
          _ = d * (2 * (pu (e - 1) * pd e)) := by rw [Nat.mul_assoc, a2]
          _ = 2 * (d * pu (e - 1)) * pd e := by rw [Nat.mul_left_comm, Nat.mul_assoc, Nat.mul_assoc]
      exact Nat.lt_of_mul_lt_mul_right a3
  · rw [if_neg h]
    refine ⟨by omega, ?_⟩
    have a1 : n * pd e < 2 ^ Ln * pd e := Nat.mul_lt_mul_of_pos_right n1 (pd_pos _)
    have a2 : 2 ^ (Ld - 1) * pu e ≤ d * pu e := Nat.mul_le_mul_right _ d3
    have a3 : 2 ^ Ln * pd e = 2 * (2 ^ (Ld - 1) * pu e) := by
      unfold pu pd
      rw [← Nat.pow_add, ← Nat.pow_add, Nat.mul_comm 2, ← Nat.pow_succ]; congr 1; omega
    omega
def frv (I Q : Nat) (b : Option Nat) : Int × Bool :=
  if Q = 0 then (0, false) else match b with
    | some q => ((q : Int), false)
    | none => ((I : Int), true)
end Go.Proofs.YtbjmfocjigikgaaDoor.XiB
end
section
namespace Go.Proofs.YtbjmfocjigikgaaDoor.XiB
open Go.RowKit Go.Proofs.YtbjmfocjigikgaaDoor.Xi Go.Proofs.YtbjmfocjigikgaaDoor.A Go.Proofs.YtbjmfocjigikgaaDoor.L Go.Proofs.YtbjmfocjigikgaaDoor.Q Go.Proofs.YtbjmfocjigikgaaDoor.XiH Go.Proofs.YtbjmfocjigikgaaDoorW.PrintWords Go.Proofs.YtbjmfocjigikgaaDoorW.PrintLast Go.Proofs.YtbjmfocjigikgaaDoorW.PrintMore
set_option linter.unusedSimpArgs false
set_option linter.unusedVariables false
theorem pformat_ok {size F E S : Nat} {L : Int} {I : Nat} (h : IsFmt size F E S L I) : round_format.f size = some ((F : Int) + 1, L, true) := by
  rcases h with ⟨rfl, rfl, rfl, rfl, rfl, rfl⟩ | ⟨rfl, rfl, rfl, rfl, rfl, rfl⟩ <;> rfl
theorem pInf_ok {size F E S : Nat} {L : Int} {I : Nat} (h : IsFmt size F E S L I) (k : Nat) (neg : Bool) : bits_Inf.f k neg size = some (((sgn S neg I : Nat) : Int), none) := by
  unfold bits_Inf.f; rw [bind_eq (Pack_inf' h k neg 0 0)]
theorem pZero_ok {size F E S : Nat} {L : Int} {I : Nat} (h : IsFmt size F E S L I) (k : Nat) (neg : Bool) : bits_Zero.f k neg size = some (((sgn S neg 0 : Nat) : Int), none) := by
  unfold bits_Zero.f; rw [bind_eq (Pack_zero' h k neg 0 0)]
theorem far_ok {e : Int} (h0 : -1099511627776 ≤ e) (h1 : e ≤ 1099511627776) : round_far.f e = some false := by
  unfold round_far.f; rw [if_neg (by omega), decide_eq_false (by omega)]
theorem pack_j1 {size F E S : Nat} {L : Int} {I : Nat} (h : IsFmt size F E S L I) (neg : Bool) {Q : Nat} (last : Int) (b : Option Nat)
    (hb : 0 < Q → ∀ (neg : Bool) (k : Nat), bits_Pack.f (k + 200) neg 2 ((Q : Nat) : Int) last size = some (pv S neg b)) (k : Nat) :
    round_pack.j1 (k + 202) size neg (Q : Int) last = some ((ans S I neg Q b).1, errv (ans S I neg Q b).2) := by
  rw [round_pack.j1]
  unfold ans
  by_cases h0 : Q = 0
  · subst h0
    rw [if_pos (by rfl), if_pos rfl, round_pack.j2, bind_eq (Pack_zero' h _ neg 0 0), if_pos (by rfl)]; rfl
  · rw [if_neg (by omega), if_neg h0, round_pack.j2, bind_eq (hb (by omega) neg k)]
    cases b with
    | some q => rw [if_pos (by rfl)]; rfl
    | none => rw [if_neg (by simp [pv]), bind_eq (pInf_ok h _ neg)]; rfl
theorem pack_ok {size F E S : Nat} {L : Int} {I : Nat} (h : IsFmt size F E S L I) (neg : Bool) {mant Q : Nat} (hm : mant < 9223372036854775808) (last : Int) (half more : Bool) (hQ : Q = if half = true ∧ (more = true ∨ mant % 2 = 1) then mant + 1 else mant) (b : Option Nat)
    (hb : 0 < Q → ∀ (neg : Bool) (k : Nat), bits_Pack.f (k + 200) neg 2 ((Q : Nat) : Int) last size = some (pv S neg b)) (k : Nat) :
    round_pack.f (k + 203) size neg (mant : Int) last half more = some ((ans S I neg Q b).1, errv (ans S I neg Q b).2) := by
  have hand : (Go.bits .and .u64 (mant : Int) 1 == 1) = decide (mant % 2 = 1) := by
    rw [and_one (by omega)]
    by_cases c : mant % 2 = 1
    · rw [decide_eq_true c, c]; rfl
    · rw [decide_eq_false c, show mant % 2 = 0 by omega]; rfl
  have hup : IntKind.u64.wrap ((mant : Int) + 1) = ((mant + 1 : Nat) : Int) := by rw [wrapu_id (by omega) (by omega)]; omega
  unfold round_pack.f
  cases half with
  | false =>
    rw [if_neg (by simp)] at hQ
    subst hQ
    rw [if_neg (by simp), round_pack.j0, if_neg (by simp)]
    exact pack_j1 h neg last b hb k
  | true =>
    rw [if_pos rfl]
    cases more with
    | true =>
      rw [if_pos ⟨rfl, .inl rfl⟩] at hQ
      subst hQ
      rw [if_pos rfl, round_pack.j0, if_pos rfl, hup]
      exact pack_j1 h neg last b hb k
    | false =>
      rw [if_neg (by simp), hand]
      by_cases c : mant % 2 = 1
      · rw [if_pos ⟨rfl, .inr c⟩] at hQ
        subst hQ
        rw [decide_eq_true c, round_pack.j0, if_pos rfl, hup]
        exact pack_j1 h neg last b hb k
      · rw [if_neg (by rintro ⟨_, c2 | c2⟩; simp at c2; exact c c2)] at hQ
        subst hQ
        rw [decide_eq_false c, round_pack.j0, if_neg (by simp)]
        exact pack_j1 h neg last b hb k
end Go.Proofs.YtbjmfocjigikgaaDoor.XiB
end
section
namespace Go.Proofs.YtbjmfocjigikgaaDoor.XiH
open Go.RowKit Go.Proofs.YtbjmfocjigikgaaDoor.Xi Go.Proofs.YtbjmfocjigikgaaDoor.A Go.Proofs.YtbjmfocjigikgaaDoor.L Go.Proofs.YtbjmfocjigikgaaDoorW.PrintWords Go.Proofs.YtbjmfocjigikgaaDoorW.PrintLast Go.Proofs.YtbjmfocjigikgaaDoorW.PrintMore
set_option linter.unusedSimpArgs false
set_option linter.unusedVariables false
theorem tmod64 (n : Nat) : Int.tmod (n : Int) 64 = ((n % 64 : Nat) : Int) := (Int.ofNat_tmod n 64).symm
theorem tdiv64 (n : Nat) : Int.tdiv (n : Int) 64 = ((n / 64 : Nat) : Int) := (Int.ofNat_tdiv n 64).symm
theorem pow_split64 (n : Nat) : 2 ^ n = B64 ^ (n / 64) * 2 ^ (n % 64) := by
  have e : B64 = 2 ^ 64 := rfl
  rw [e, ← Nat.pow_mul, ← Nat.pow_add]; congr 1; have := Nat.div_add_mod n 64; omega
theorem getD_set_ne {l : List Int} {i j : Nat} (x : Int) (h : i ≠ j) : (l.set i x).getD j 0 = l.getD j 0 := by
  simp only [List.getD_eq_getElem?_getD]; rw [List.getElem?_set_ne h]
theorem getD_set_eq {l : List Int} {i : Nat} (x : Int) (h : i < l.length) : (l.set i x).getD i 0 = x := by
  simp only [List.getD_eq_getElem?_getD]; rw [List.getElem?_set_self h]; rfl
theorem Bits_ok {a : List Int} (ha : okl B64 a) (hv : vnum a = 0) : ∃ L : Nat, nat_Bits.f a = some ((L : Int), none) ∧ bl (nv B64 a) L := by
  obtain ⟨la, ta⟩ := (vnum_zero a).1 hv
  have hV := Valid_ok (l := a) (by omega)
  unfold nat_Bits.f
  rw [bind_eqh hV, if_pos (by rw [errn_isNone]; exact hv)]
  by_cases h0 : a.length = 0
  · rw [if_pos (by omega)]
    have : a = [] := List.length_eq_zero_iff.1 h0
    subst this
    exact ⟨0, rfl, by decide, fun h => absurd h (by simp [nv]), fun _ => rfl⟩
  · obtain ⟨r, hr⟩ : ∃ r, a.length = r + 1 := ⟨a.length - 1, by omega⟩
    obtain ⟨x, hx, hxB, hxn⟩ := dig_at ha b64_pos r
    have hxB' : x < 18446744073709551616 := hxB
    have hx0 : 0 < x := by
      rcases Nat.eq_zero_or_pos x with h | h
      · exfalso
        have h1 := (top_iff a).1 ta
        apply h1
        refine ⟨by omega, ?_⟩
        rw [show a.length - 1 = r by omega]
        have h2 := okl_get ha r b64_pos
        omega
      · exact h
    obtain ⟨b0, b1, b2⟩ := blen_spec _ x rfl hx0 hxB'
    have hbl := bitLen_le64 x hxB'
    have hlz : bits_LeadingZeros64.f (x : Int) = some ((64 - Lib.bitLen x : Nat) : Int) := by
      have hlen : bits_Len64.f (x : Int) = some ((Lib.bitLen x : Nat) : Int) := by
        unfold bits_Len64.f u64ok
        rw [if_pos (u64ok_of hxB'), Int.toNat_natCast]
      unfold bits_LeadingZeros64.f
      rw [bind_eqh hlen, wrapi_id (by omega) (by omega)]
      rw [show (64 : Int) - ((Lib.bitLen x : Nat) : Int) = ((64 - Lib.bitLen x : Nat) : Int) by omega]
    refine ⟨64 * r + Lib.bitLen x, ?_, ?_⟩
    · rw [if_neg (by omega), wrapi_id (n := (a.length : Int) - 1) (by omega) (by omega), if_pos (by omega), if_pos (by omega), show (a.length : Int) - 1 = (r : Int) by omega, hx, bind_eqh hlz, wrapi_id (n := 64 * (a.length : Int)) (by omega) (by omega), wrapi_id (by omega) (by omega)]
      rw [show 64 * (a.length : Int) - ((64 - Lib.bitLen x : Nat) : Int) = ((64 * r + Lib.bitLen x : Nat) : Int) by omega]
    · have h1 := nv_take_drop B64 a r (by omega)
      rw [drop_get (by omega : r < a.length), nv, hxn, List.drop_eq_nil_of_le (by omega), nv, Nat.mul_zero, Nat.add_zero] at h1
      have h2 := nv_lt b64_pos (okl_take ha r)
      rw [List.length_take, Nat.min_eq_left (by omega)] at h2
      have e : B64 ^ r = 2 ^ (64 * r) := by rw [show B64 = 2 ^ 64 from rfl, ← Nat.pow_mul]
      rw [e] at h1 h2
      have hP := Nat.two_pow_pos (64 * r)
      have h3 := Nat.mul_le_mul_left (2 ^ (64 * r)) (show x + 1 ≤ 2 ^ Lib.bitLen x from b2)
      have h4 := Nat.mul_le_mul_left (2 ^ (64 * r)) b1
      rw [Nat.mul_add, Nat.mul_one, ← Nat.pow_add] at h3
      rw [← Nat.pow_add] at h4
      have h5 : 2 ^ (64 * r) * 1 ≤ 2 ^ (64 * r) * x := Nat.mul_le_mul_left _ hx0
      refine ⟨by omega, fun _ => ⟨by omega, ?_⟩, fun h => by omega⟩
      rw [show 64 * r + Lib.bitLen x - 1 = 64 * r + (Lib.bitLen x - 1) by omega]
      omega

/-! ### less -/
theorem less_l0 {a b : List Int} (ha : okl B64 a) (hb : okl B64 b) (hlen : a.length = b.length) (hl : a.length < 1000000000000000) : ∀ (n k : Nat), n ≤ a.length → n + 1 ≤ k → round_less.l0 k a b ((n : Int) - 1) = some (decide (nv B64 (a.take n) < nv B64 (b.take n)))
  | 0, k + 1, hn, hk => by rw [round_less.l0, if_neg (by omega), decide_eq_false (by simp [nv])]
  | n + 1, k + 1, hn, hk => by
    obtain ⟨x, hx, hxB, hxn⟩ := dig_at ha b64_pos n
    obtain ⟨y, hy, hyB, hyn⟩ := dig_at hb b64_pos n
    obtain ⟨c1, c2, c3⟩ := cmp_step b64_pos ha hb n hxn hyn (by omega) (by omega)
    rw [round_less.l0, show ((n + 1 : Nat) : Int) - 1 = (n : Int) by omega, if_pos (by omega), if_pos (by omega), if_pos (by omega), if_pos (by omega), hx, hy]
    by_cases h1 : x = y
    · rw [if_pos (by omega), wrapi_id (n := (n : Int) - 1) (by omega) (by omega), less_l0 ha hb hlen hl n k (by omega) (by omega)]
      refine congrArg some (decide_eq_decide.2 ?_)
      rw [← cmpn_neg, ← cmpn_neg, c3 h1]
    · rw [if_neg (by omega)]
      refine congrArg some (decide_eq_decide.2 ?_)
      constructor
      · intro h; exact c1 (by omega)
      · intro h
        by_cases g : x < y
        · omega
        · have := c2 (by omega); omega
theorem less_ok {a b : List Int} (ha : okl B64 a) (hb : okl B64 b) (hlen : a.length = b.length) (hl : a.length ≤ 1000) {k : Nat} (hk : 1001 ≤ k) : round_less.f k a b = some (decide (nv B64 a < nv B64 b)) := by
  have h := less_l0 ha hb hlen (by omega) a.length k (Nat.le_refl _) (by omega)
  rw [List.take_of_length_le (Nat.le_refl _), List.take_of_length_le (by omega)] at h
  unfold round_less.f
  rw [wrapi_id (by omega) (by omega)]
  exact h
/-! ### zero -/
theorem zero_l0 {a : List Int} (ha : okl B64 a) (hl : a.length ≤ 1000) : ∀ (n k i : Nat), i + n = a.length → n + 1 ≤ k → nv B64 (a.take i) = 0 → round_zero.l0 k a (a.length : Int) (i : Int) = some (decide (nv B64 a = 0))
  | 0, k + 1, i, hi, hk, hv => by
    rw [List.take_of_length_le (by omega)] at hv
    rw [round_zero.l0, if_neg (by omega), decide_eq_true hv]
  | n + 1, k + 1, i, hi, hk, hv => by
    obtain ⟨x, hx, hxB, hxn⟩ := dig_at ha b64_pos i
    have hs := nv_take_step B64 a i
    rw [hxn, hv, Nat.zero_add] at hs
    rw [round_zero.l0, if_pos (by omega), if_pos (by omega), if_pos (by omega), hx]
    by_cases h0 : x = 0
    · subst h0
      rw [if_pos (by rfl), wrapi_id (n := (i : Int) + 1) (by omega) (by omega), show (i : Int) + 1 = ((i + 1 : Nat) : Int) by omega]
      exact zero_l0 ha hl n k (i + 1) (by omega) (by omega) (by rw [hs, Nat.mul_zero])
    · have hp : 0 < B64 ^ i := Nat.pow_pos b64_pos
      have htd := nv_take_drop B64 a (i + 1) (by omega)
      have h1 : 0 < B64 ^ i * x := Nat.mul_pos hp (by omega)
      have : nv B64 a ≠ 0 := by omega
      rw [if_neg (by omega), decide_eq_false this]
theorem zero_ok {a : List Int} (ha : okl B64 a) (hl : a.length ≤ 1000) {k : Nat} (hk : 1001 ≤ k) : round_zero.f k a = some (decide (nv B64 a = 0)) := by
  unfold round_zero.f
  exact zero_l0 ha hl a.length k 0 (by omega) (by omega) rfl
/-! ### same -/
theorem same_row {a : List Int} {m : Nat} (h : a.length ≤ m) : a.take (min a.length (List.replicate m (0 : Int)).length) ++ (List.replicate m (0 : Int)).drop (min a.length (List.replicate m (0 : Int)).length) = a ++ List.replicate (m - a.length) 0 := by
  rw [List.length_replicate, Nat.min_eq_left h, List.take_of_length_le (Nat.le_refl _), List.drop_replicate]
theorem mx_nat (a b : Nat) : mx (a : Int) (b : Int) = ((max a b : Nat) : Int) := by unfold mx; split <;> omega
theorem psame_ok {a b : List Int} (ha : okl B64 a) (hb : okl B64 b) (la : a.length ≤ 900) (lb : b.length ≤ 900) :
    ∃ x y, round_same.f a b = some (x, y) ∧ okl B64 x ∧ okl B64 y ∧ x.length = max a.length b.length + 1 ∧ y.length = max a.length b.length + 1 ∧ nv B64 x = nv B64 a ∧ nv B64 y = nv B64 b := by
  have hw : wrap64 ((mx (a.length : Int) (b.length : Int)) + 1) = ((max a.length b.length + 1 : Nat) : Int) := by
    rw [mx_nat, wrapi_id (by omega) (by omega)]; omega
  refine ⟨a ++ List.replicate (max a.length b.length + 1 - a.length) 0, b ++ List.replicate (max a.length b.length + 1 - b.length) 0, ?_, okl_append.2 ⟨ha, okl_zeros _ _ b64_pos⟩, okl_append.2 ⟨hb, okl_zeros _ _ b64_pos⟩, by rw [List.length_append, List.length_replicate]; omega, by rw [List.length_append, List.length_replicate]; omega, by rw [nv_append, nv_zeros, Nat.mul_zero, Nat.add_zero], by rw [nv_append, nv_zeros, Nat.mul_zero, Nat.add_zero]⟩
  unfold round_same.f
  rw [hw, if_pos (by omega), Int.toNat_natCast, if_pos (by omega), bind_eqh rfl, bind_eqh rfl, same_row (by omega), same_row (by omega)]
/-! ### off -/
theorem off_l0 {a b : List Int} (ha : okl B64 a) (hb : okl B64 b) (hlen : a.length = b.length) (hl : a.length ≤ 1000) (hge : nv B64 b ≤ nv B64 a) : ∀ (n k i c : Nat) (cur : List Int), i + n = a.length → n + 1 ≤ k → okl B64 cur → cur.length = a.length → c ≤ 1 → cur.drop i = a.drop i →
    nv B64 (cur.take i) + nv B64 (b.take i) = nv B64 (a.take i) + B64 ^ i * c →
    ∃ r, round_off.l0 k cur b (c : Int) (a.length : Int) (i : Int) = some r ∧ okl B64 r ∧ r.length = a.length ∧ nv B64 r + nv B64 b = nv B64 a := by
  intro n
  induction n with
  | zero =>
    intro k i c cur hi hk ho hcl hc hd hv
    obtain ⟨k, rfl⟩ : ∃ q, k = q + 1 := ⟨k - 1, by omega⟩
    refine ⟨cur, by rw [round_off.l0, if_neg (by omega)], ho, hcl, ?_⟩
    have hlt := nv_lt b64_pos ho
    rw [List.take_of_length_le (by omega), List.take_of_length_le (by omega), List.take_of_length_le (by omega), show i = a.length by omega] at hv
    rw [hcl] at hlt
    rcases (by omega : c = 0 ∨ c = 1) with rfl | rfl
    · omega
    · rw [Nat.mul_one] at hv; omega
  | succ n ih =>
    intro k i c cur hi hk ho hcl hc hd hv
    obtain ⟨k, rfl⟩ : ∃ q, k = q + 1 := ⟨k - 1, by omega⟩
    obtain ⟨x, hx, hxB, hxn⟩ := dig_at ha b64_pos i
    obtain ⟨y, hy, hyB, hyn⟩ := dig_at hb b64_pos i
    have hd2 := hd
    rw [drop_get (by omega : i < cur.length), drop_get (by omega : i < a.length)] at hd2
    injection hd2 with hg hd3
    have hxc : rd cur (i : Int) = (x : Int) := by rw [rd_nat, hg, ← rd_nat]; exact hx
    have hmod := Nat.mod_lt (x + B64 - y - c) b64_pos
    have hc' : (if x < y + c then 1 else 0) ≤ 1 := by split <;> omega
    have hset : okl B64 (cur.set i (((x + B64 - y - c) % B64 : Nat) : Int)) := okl_set ho i ⟨by omega, by omega⟩
    have hstep := sub_step (P := B64 ^ i) (B := B64) (x := x) (y := y) (d := (x + B64 - y - c) % B64) (w' := (if x < y + c then 1 else 0)) hv (borrow_eq hxB hyB hc)
    have hv2 : nv B64 ((cur.set i (((x + B64 - y - c) % B64 : Nat) : Int)).take (i + 1)) + nv B64 (b.take (i + 1)) = nv B64 (a.take (i + 1)) + B64 ^ (i + 1) * (if x < y + c then 1 else 0) := by
      rw [take_set_succ _ (by omega), nv_snoc, List.length_take, Nat.min_eq_left (by omega), nv_take_step, nv_take_step, hxn, hyn, Int.toNat_natCast, Nat.pow_succ]
      omega
    obtain ⟨r, r1, r2⟩ := ih k (i + 1) (if x < y + c then 1 else 0) _ (by omega) (by omega) hset (by rw [List.length_set]; exact hcl) hc' (by rw [List.drop_set_of_lt (by omega)]; exact hd3) hv2
    refine ⟨r, ?_, r2⟩
    rw [← r1, round_off.l0, if_pos (by omega), if_pos (by omega), if_pos (by omega), if_pos (by omega), hxc, hy, bind_eqh (sub64_ok hxB hyB hc), Int.toNat_natCast, wrapi_id (n := (i : Int) + 1) (by omega) (by omega)]
    rfl
theorem off_ok {a b : List Int} (ha : okl B64 a) (hb : okl B64 b) (hlen : a.length = b.length) (hl : a.length ≤ 1000) (hge : nv B64 b ≤ nv B64 a) {k : Nat} (hk : 1001 ≤ k) :
    ∃ r, round_off.f k a b = some r ∧ okl B64 r ∧ r.length = a.length ∧ nv B64 r + nv B64 b = nv B64 a := by
  unfold round_off.f
  exact off_l0 ha hb hlen hl hge a.length k 0 0 a (by omega) (by omega) ha rfl (by omega) rfl (by simp [nv])
/-! ### double -/
theorem dbl_word {x z : Nat} (hx : x < 18446744073709551616) (hz : z < 18446744073709551616) : Go.bits .or .u64 ((2 * x % 18446744073709551616 : Nat) : Int) ((z : Int) / 9223372036854775808) = ((2 * x % 18446744073709551616 + z / 9223372036854775808 : Nat) : Int) := by
  have h := or_disj (x % 9223372036854775808) (z / 9223372036854775808) 1 (by omega) (by omega)
  rw [show x % 9223372036854775808 * 2 ^ 1 = 2 * x % 18446744073709551616 by omega] at h
  rw [← h]
  congr 1
theorem double_l0 {a : List Int} (ha : okl B64 a) (hl : a.length ≤ 1000) : ∀ (j k : Nat) (cur : List Int), j ≤ a.length → j + 1 ≤ k → okl B64 cur → cur.length = a.length → cur.take j = a.take j →
    nv B64 (cur.drop j) = 2 * nv B64 (a.drop j) + (if j = 0 then 0 else (a.getD (j - 1) 0).toNat / 9223372036854775808) →
    ∃ r, round_double.l0 k cur ((j : Int) - 1) = some r ∧ okl B64 r ∧ r.length = a.length ∧ nv B64 r = 2 * nv B64 a
  | 0, k + 1, cur, hj, hk, ho, hcl, ht, hv => by
    refine ⟨cur, by rw [round_double.l0, if_neg (by omega)], ho, hcl, ?_⟩
    rw [if_pos rfl] at hv
    exact hv
  | i + 1, k + 1, cur, hj, hk, ho, hcl, ht, hv => by
    obtain ⟨x, hx, hxB, hxn⟩ := dig_at ha b64_pos i
    have hxB' : x < 18446744073709551616 := hxB
    rw [if_neg (by omega), show i + 1 - 1 = i by omega, hxn] at hv
    have ht2 := ht
    rw [take_get (by omega : i < cur.length), take_get (by omega : i < a.length)] at ht2
    obtain ⟨ht3, hg⟩ := List.append_inj' ht2 rfl
    injection hg with hg _
    have hxc : rd cur (i : Int) = (x : Int) := by rw [rd_nat, hg, ← rd_nat]; exact hx
    have hwr : IntKind.u64.wrap ((x : Int) * 2) = ((2 * x % 18446744073709551616 : Nat) : Int) := by rw [wrapu]; omega
    have hda := drop_get (by omega : i < a.length)
    have key : ∀ (v t : Nat), v = 2 * x % 18446744073709551616 + t → v < 18446744073709551616 → t = (if i = 0 then 0 else (a.getD (i - 1) 0).toNat / 9223372036854775808) →
        nv B64 ((cur.set i (v : Int)).drop i) = 2 * nv B64 (a.drop i) + (if i = 0 then 0 else (a.getD (i - 1) 0).toNat / 9223372036854775808) := by
      intro v t hvt hv64 htt
      rw [← htt, drop_get (by rw [List.length_set]; omega), getD_set_eq _ (by omega), List.drop_set_of_lt (by omega), hda, nv, nv, hv, hxn, Int.toNat_natCast, hvt]
      have hB : B64 = 18446744073709551616 := rfl
      rw [hB]
      generalize nv 18446744073709551616 (a.drop (i + 1)) = q
      omega
    rw [round_double.l0, show ((i + 1 : Nat) : Int) - 1 = (i : Int) by omega, if_pos (by omega), if_pos (by omega), if_pos (by omega), hxc, hwr, Int.toNat_natCast, bind_eqh rfl]
    by_cases hi0 : i = 0
    · subst hi0
      obtain ⟨r, r1, r2⟩ := double_l0 ha hl 0 k (cur.set 0 ((2 * x % 18446744073709551616 : Nat) : Int)) (by omega) (by omega) (okl_set ho 0 ⟨by omega, by rw [show (B64 : Int) = 18446744073709551616 from rfl]; omega⟩) (by rw [List.length_set]; exact hcl) rfl (key _ 0 (by omega) (by omega) (by rw [if_pos rfl]))
      refine ⟨r, ?_, r2⟩
      rw [if_neg (by omega), wrapi_id (by omega) (by omega)]
      exact r1
    · obtain ⟨z, hz, hzB, hzn⟩ := dig_at ha b64_pos (i - 1)
      have hzB' : z < 18446744073709551616 := hzB
      have hzc : rd (cur.set i ((2 * x % 18446744073709551616 : Nat) : Int)) ((i - 1 : Nat) : Int) = (z : Int) := by
        rw [rd_nat, getD_set_ne _ (by omega)]
        have e1 : cur.getD (i - 1) 0 = (cur.take i).getD (i - 1) 0 := by
          simp only [List.getD_eq_getElem?_getD]; rw [List.getElem?_take_of_lt (by omega)]
        have e2 : a.getD (i - 1) 0 = (a.take i).getD (i - 1) 0 := by
          simp only [List.getD_eq_getElem?_getD]; rw [List.getElem?_take_of_lt (by omega)]
        rw [e1, ht3, ← e2, ← rd_nat]; exact hz
      have hxc2 : rd (cur.set i ((2 * x % 18446744073709551616 : Nat) : Int)) (i : Int) = ((2 * x % 18446744073709551616 : Nat) : Int) := by
        rw [rd_nat, getD_set_eq _ (by omega)]
      have hw1 : wrap64 ((i : Int) - 1) = ((i - 1 : Nat) : Int) := by rw [wrapi_id (by omega) (by omega)]; omega
      have hv64 : 2 * x % 18446744073709551616 + z / 9223372036854775808 < 18446744073709551616 := by omega
      obtain ⟨r, r1, r2⟩ := double_l0 ha hl i k (cur.set i ((2 * x % 18446744073709551616 + z / 9223372036854775808 : Nat) : Int)) (by omega) (by omega) (okl_set ho i ⟨by omega, by rw [show (B64 : Int) = 18446744073709551616 from rfl]; omega⟩) (by rw [List.length_set]; exact hcl) (by rw [List.take_set_of_le (Nat.le_refl _)]; exact ht3) (key _ (z / 9223372036854775808) rfl hv64 (by rw [if_neg hi0, hzn]))
      refine ⟨r, ?_, r2⟩
      rw [if_pos (by omega), hw1, if_pos (by omega), if_pos (by omega), hxc2, hzc, dbl_word hxB' hzB', List.set_set, show ((i - 1 : Nat) : Int) = (i : Int) - 1 by omega]
      exact r1
theorem double_ok {a : List Int} (ha : okl B64 a) (hl : a.length ≤ 1000) (hr : 2 * nv B64 a < B64 ^ a.length) {k : Nat} (hk : 1001 ≤ k) :
    ∃ r, round_double.f k a = some r ∧ okl B64 r ∧ r.length = a.length ∧ nv B64 r = 2 * nv B64 a := by
  unfold round_double.f
  rw [wrapi_id (by omega) (by omega)]
  refine double_l0 ha hl a.length k a (Nat.le_refl _) (by omega) ha rfl rfl ?_
  rw [List.drop_of_length_le (Nat.le_refl _)]
  by_cases h0 : a.length = 0
  · rw [if_pos h0]
    have : a = [] := List.length_eq_zero_iff.1 h0
    subst this
    simp [nv]
  · rw [if_neg h0]
    obtain ⟨x, hx, hxB, hxn⟩ := dig_at ha b64_pos (a.length - 1)
    have htd := nv_take_drop B64 a (a.length - 1) (by omega)
    rw [drop_get (by omega), nv, hxn] at htd
    have h1 : B64 ^ (a.length - 1) * x ≤ nv B64 a := by rw [htd, Nat.mul_add]; omega
    have h2 : B64 ^ a.length = B64 ^ (a.length - 1) * B64 := by rw [← Nat.pow_succ]; congr 1; omega
    rw [h2] at hr
    have h3 : B64 ^ (a.length - 1) * (2 * x) < B64 ^ (a.length - 1) * B64 := by rw [Nat.mul_left_comm]; omega
    have h4 := Nat.lt_of_mul_lt_mul_left h3
    have h5 : 2 * x < 18446744073709551616 := h4
    rw [hxn]
    simp only [nv]
    omega
/-! ### shifted -/
theorem word_at (i n : Nat) (hi : i ≤ 1000000) (hn : n ≤ 1000000) : wrap64 ((i : Int) + wrap64 (Int.tdiv (n : Int) 64)) = ((i + n / 64 : Nat) : Int) := by
  rw [tdiv64, wrapi_id (n := ((n / 64 : Nat) : Int)) (by omega) (by omega), wrapi_id (by omega) (by omega)]; omega
theorem word_next (i : Nat) (hi : i ≤ 3000000) : wrap64 ((i : Int) + 1) = ((i + 1 : Nat) : Int) := by rw [wrapi_id (by omega) (by omega)]; omega
theorem word_left (r : Nat) (hr : r < 64) : wrap64 (64 - (r : Int)) = ((64 - r : Nat) : Int) := by rw [wrapi_id (by omega) (by omega)]; omega
set_option maxHeartbeats 1000000 in
theorem shifted_l0 {a : List Int} (ha : okl B64 a) (la : a.length ≤ 128) {n : Nat} (hn : n ≤ 10000) : ∀ (m k i : Nat) (out : List Int), i + m = a.length → m + 1 ≤ k → okl B64 out → out.length = a.length + n / 64 + 1 → (∀ q, i + n / 64 < q → out.getD q 0 = 0) → nv B64 out = 2 ^ n * nv B64 (a.take i) →
    ∃ r, round_shifted.l0 k (n : Int) out a (a.length : Int) (i : Int) = some r ∧ okl B64 r ∧ r.length = a.length + n / 64 + 1 ∧ nv B64 r = 2 ^ n * nv B64 a := by
  intro m
  induction m with
  | zero =>
    intro k i out hi hk ho hlen hz hv
    obtain ⟨k, rfl⟩ : ∃ q, k = q + 1 := ⟨k - 1, by omega⟩
    rw [List.take_of_length_le (by omega)] at hv
    exact ⟨out, by rw [round_shifted.l0, if_neg (by omega)], ho, hlen, hv⟩
  | succ m ih =>
    intro k i out hi hk ho hlen hz hv
    obtain ⟨k, rfl⟩ : ∃ q, k = q + 1 := ⟨k - 1, by omega⟩
    obtain ⟨x, hx, hxB, hxn⟩ := dig_at ha b64_pos i
    have hxB' : x < 18446744073709551616 := hxB
    obtain ⟨o, hor, hoB, hon⟩ := dig_at ho b64_pos (i + n / 64)
    have hs64 : n % 64 < 64 := Nat.mod_lt _ (by decide)
    have hsplit := pow_split64 n
    have hpow : 2 ^ (n % 64) * 2 ^ (64 - n % 64) = 18446744073709551616 := by
      rw [← Nat.pow_add, show n % 64 + (64 - n % 64) = 64 by omega]
    have hp2 : 0 < 2 ^ (n % 64) := Nat.two_pow_pos _
    have hp3 : 0 < 2 ^ (64 - n % 64) := Nat.two_pow_pos _
    have hP : 0 < B64 ^ (i + n / 64) := Nat.pow_pos b64_pos
    have hnP : 2 ^ n * B64 ^ i = B64 ^ (i + n / 64) * 2 ^ (n % 64) := by
      rw [hsplit, Nat.pow_add, Nat.mul_assoc, Nat.mul_comm (2 ^ (n % 64)), ← Nat.mul_assoc, Nat.mul_comm (B64 ^ (n / 64))]
    have hosm : o < 2 ^ (n % 64) := by
      have h1 := nv_take_drop B64 out (i + n / 64) (by omega)
      rw [drop_get (by omega), nv, hon, Nat.mul_add] at h1
      have h2 := nv_lt b64_pos (okl_take ha i)
      rw [List.length_take, Nat.min_eq_left (by omega)] at h2
      have h3 : 2 ^ n * nv B64 (a.take i) < 2 ^ n * B64 ^ i := Nat.mul_lt_mul_of_pos_left h2 (Nat.two_pow_pos _)
      have h4 : B64 ^ (i + n / 64) * o < B64 ^ (i + n / 64) * 2 ^ (n % 64) := by omega
      exact Nat.lt_of_mul_lt_mul_left h4
    have hlo : x * 2 ^ (n % 64) % 18446744073709551616 = x % 2 ^ (64 - n % 64) * 2 ^ (n % 64) := by
      rw [← hpow, Nat.mul_comm (2 ^ (n % 64)) (2 ^ (64 - n % 64)), Nat.mul_mod_mul_right]
    have hhi : x * 2 ^ (n % 64) / 18446744073709551616 = x / 2 ^ (64 - n % 64) := by
      rw [← hpow, Nat.mul_comm (2 ^ (n % 64)) (2 ^ (64 - n % 64)), Nat.mul_div_mul_right _ _ hp2]
    have hlo2 : x % 2 ^ (64 - n % 64) * 2 ^ (n % 64) + o < 18446744073709551616 := by
      have h1 : x % 2 ^ (64 - n % 64) + 1 ≤ 2 ^ (64 - n % 64) := Nat.mod_lt _ hp3
      have h2 := Nat.mul_le_mul_right (2 ^ (n % 64)) h1
      rw [Nat.add_mul, Nat.one_mul, Nat.mul_comm (2 ^ (64 - n % 64)), hpow] at h2
      omega
    have hor2 := or_disj' (x % 2 ^ (64 - n % 64)) o (n % 64) hosm hlo2
    have hdm := Nat.div_add_mod (x * 2 ^ (n % 64)) 18446744073709551616
    rw [hhi, hlo] at hdm
    have hnv1 := nv_set B64 (l := out) (i := i + n / 64) (((x % 2 ^ (64 - n % 64) * 2 ^ (n % 64) + o : Nat) : Int)) (by omega)
    rw [hon, Int.toNat_natCast, Nat.mul_add] at hnv1
    have hstep := nv_take_step B64 a i
    rw [hxn] at hstep
    have hgoal : 2 ^ n * nv B64 (a.take (i + 1)) = nv B64 out + B64 ^ (i + n / 64) * (x % 2 ^ (64 - n % 64) * 2 ^ (n % 64)) + B64 ^ (i + n / 64) * (18446744073709551616 * (x / 2 ^ (64 - n % 64))) := by
      rw [hstep, Nat.mul_add, hv, ← Nat.mul_assoc (2 ^ n), hnP, Nat.mul_assoc (B64 ^ (i + n / 64)), Nat.mul_comm (2 ^ (n % 64)) x, ← hdm, Nat.mul_add]
      omega
    have hok1 : okl B64 (out.set (i + n / 64) ((x % 2 ^ (64 - n % 64) * 2 ^ (n % 64) + o : Nat) : Int)) := okl_set ho _ ⟨by omega, by rw [show (B64 : Int) = 18446744073709551616 from rfl]; omega⟩
    rw [round_shifted.l0, if_pos (by omega), if_pos (by omega), if_pos (by omega), word_at i n (by omega) (by omega), if_pos (by omega), if_pos (by omega), tmod64, wrapu_id (n := ((n % 64 : Nat) : Int)) (by omega) (by omega), if_pos (by omega), Int.toNat_natCast, hor, hx, shl_u x (n % 64) (by omega), hlo, hor2, bind_eqh rfl, word_next (i + n / 64) (by omega), word_next i (by omega)]
    by_cases hs0 : n % 64 = 0
    · rw [if_neg (by omega)]
      have hhi0 : x / 2 ^ (64 - n % 64) = 0 := by
        rw [hs0]; exact Nat.div_eq_of_lt hxB'
      simp only [hhi0, Nat.mul_zero, Nat.add_zero] at hgoal
      refine ih k (i + 1) _ (by omega) (by omega) hok1 (by rw [List.length_set]; exact hlen) (fun q hq => by rw [getD_set_ne _ (by omega)]; exact hz q (by omega)) ?_
      omega
    · have hhi64 : x / 2 ^ (64 - n % 64) < 18446744073709551616 := Nat.lt_of_le_of_lt (Nat.div_le_self _ _) hxB'
      rw [if_pos (by omega), word_left (n % 64) hs64, wrapu_id (n := ((64 - n % 64 : Nat) : Int)) (by omega) (by omega), if_pos (by omega), if_pos (by omega), if_pos (by omega), Int.toNat_natCast, shr_u x (64 - n % 64) (by omega)]
      have hnv2 := nv_set B64 (l := out.set (i + n / 64) ((x % 2 ^ (64 - n % 64) * 2 ^ (n % 64) + o : Nat) : Int)) (i := i + n / 64 + 1) ((x / 2 ^ (64 - n % 64) : Nat) : Int) (by rw [List.length_set]; omega)
      rw [getD_set_ne _ (by omega), hz _ (by omega), Int.toNat_natCast, Nat.pow_succ, Nat.mul_assoc, show (0 : Int).toNat = 0 from rfl, Nat.mul_zero, Nat.mul_assoc] at hnv2
      rw [show B64 * (x / 2 ^ (64 - n % 64)) = 18446744073709551616 * (x / 2 ^ (64 - n % 64)) from rfl] at hnv2
      refine ih k (i + 1) _ (by omega) (by omega) (okl_set hok1 _ ⟨by omega, by rw [show (B64 : Int) = 18446744073709551616 from rfl]; omega⟩) (by rw [List.length_set, List.length_set]; exact hlen) (fun q hq => by rw [getD_set_ne _ (by omega), getD_set_ne _ (by omega)]; exact hz q (by omega)) ?_
      omega
theorem shifted_ok {a : List Int} (ha : okl B64 a) (la : a.length ≤ 128) {n : Nat} (hn : n ≤ 10000) {k : Nat} (hk : 200 ≤ k) :
    ∃ r, round_shifted.f k a (n : Int) = some r ∧ okl B64 r ∧ r.length = a.length + n / 64 + 1 ∧ nv B64 r = 2 ^ n * nv B64 a := by
  have hw : wrap64 ((wrap64 ((a.length : Int) + (wrap64 (Int.tdiv (n : Int) 64)))) + 1) = ((a.length + n / 64 + 1 : Nat) : Int) := by
    rw [word_at a.length n (by omega) (by omega), word_next _ (by omega)]
  unfold round_shifted.f
  rw [hw, if_pos (by omega), Int.toNat_natCast, if_pos (by omega)]
  exact shifted_l0 ha la hn a.length k 0 _ (by omega) (by omega) (okl_zeros _ _ b64_pos) (by simp) (fun q hq => by
    simp only [List.getD_eq_getElem?_getD, List.getElem?_replicate]
    split <;> rfl) (by rw [nv_zeros]; simp [nv])
end Go.Proofs.YtbjmfocjigikgaaDoor.XiH
end
section
namespace Go.Proofs.YtbjmfocjigikgaaDoor.XiB
open Go.RowKit Go.Proofs.YtbjmfocjigikgaaDoor.Xi Go.Proofs.YtbjmfocjigikgaaDoor.A Go.Proofs.YtbjmfocjigikgaaDoor.L Go.Proofs.YtbjmfocjigikgaaDoor.Q Go.Proofs.YtbjmfocjigikgaaDoor.XiH Go.Proofs.YtbjmfocjigikgaaDoorW.PrintWords Go.Proofs.YtbjmfocjigikgaaDoorW.PrintLast Go.Proofs.YtbjmfocjigikgaaDoorW.PrintMore
set_option linter.unusedSimpArgs false
set_option linter.unusedVariables false
/-- Rounding, by the quotient of the halves and what is left. -/
theorem rq_steps {B r q : Nat} (hB : 0 < B) (hr : r < 2 * B) : rq (r + 2 * B * q) (4 * B) false = if q % 2 = 1 ∧ (r ≠ 0 ∨ q / 2 % 2 = 1) then q / 2 + 1 else q / 2 := by
  have hq := Nat.div_add_mod q 2
  have e0 : r + 2 * B * q = 4 * B * (q / 2) + (2 * B * (q % 2) + r) := by
    generalize q % 2 = t at *
    generalize q / 2 = u at *
    subst hq
    rw [Nat.mul_add, ← Nat.mul_assoc, show 2 * B * 2 = 4 * B by omega]
    omega
  have hlt : 2 * B * (q % 2) + r < 4 * B := by
    rcases Nat.mod_two_eq_zero_or_one q with h | h <;> rw [h] <;> omega
  have e1 : (r + 2 * B * q) / (4 * B) = q / 2 := by
    rw [e0, Nat.mul_add_div (by omega), Nat.div_eq_of_lt hlt, Nat.add_zero]
  have e2 : (r + 2 * B * q) % (4 * B) = 2 * B * (q % 2) + r := by
    rw [e0, Nat.mul_add_mod, Nat.mod_eq_of_lt hlt]
  unfold rq
  rw [e1, e2]
  rcases Nat.mod_two_eq_zero_or_one q with h | h <;> rw [h]
  · rw [if_neg (by omega), if_neg (by omega)]
  · rw [Nat.mul_one]
    by_cases h0 : r = 0
    · subst h0
      by_cases g : q / 2 % 2 = 1
      · rw [if_pos (.inr ⟨by omega, .inr g⟩), if_pos ⟨rfl, .inr g⟩]
      · rw [if_neg (by rintro (c | ⟨_, c | c⟩); omega; simp at c; exact g c), if_neg (by rintro ⟨_, c | c⟩; exact c rfl; exact g c)]
    · rw [if_pos (.inl (by omega)), if_pos ⟨rfl, .inl h0⟩]
/-- Far below the least: nothing. -/
theorem man_zero {F n d : Nat} {L e exp : Int} (hd : 0 < d) (he : fb n d e) (h : e + exp < lst F L e exp - 1) (more : Bool) : man n d exp (lst F L e exp) more = 0 := by
  generalize lst F L e exp = last at *
  unfold man
  refine rq_small more ?_
  have a1 : n * pd e * pu (exp - last) < 2 * (d * pu e) * pu (exp - last) := Nat.mul_lt_mul_of_pos_right he.2 (pu_pos _)
  have a2 : 4 * (pu e * pu (exp - last)) ≤ pd (exp - last) * pd e := by
    unfold pu pd
    rw [← Nat.pow_add, ← Nat.pow_add, show (4 : Nat) = 2 ^ 2 from rfl, ← Nat.pow_add]
    exact Nat.pow_le_pow_right (by decide) (by omega)
  have a3 := Nat.mul_le_mul_left d a2
  have a4 : 2 * (n * pu (exp - last)) * pd e < d * pd (exp - last) * pd e := by
    have b1 : 2 * (n * pu (exp - last)) * pd e = 2 * (n * pd e * pu (exp - last)) := by rw [Nat.mul_assoc 2, Nat.mul_assoc n, Nat.mul_assoc n, Nat.mul_comm (pu _)]
    have b2 : 2 * (2 * (d * pu e) * pu (exp - last)) = d * (4 * (pu e * pu (exp - last))) := by
      rw [Nat.mul_assoc 2 (d * pu e), ← Nat.mul_assoc 2 2, Nat.mul_left_comm d 4, ← Nat.mul_assoc d]
    have b3 : d * (pd (exp - last) * pd e) = d * pd (exp - last) * pd e := (Nat.mul_assoc _ _ _).symm
    omega
  exact Nat.lt_of_mul_lt_mul_right a4
/-- The long division: m bits more. -/
theorem div_l1 (size : Int) (neg : Bool) (topv unit : Int) (hu0 : -10000000000000 ≤ unit) (hu1 : unit ≤ 10000000000000) {b : List Int} (hb : okl B64 b) (lb : b.length ≤ 1000) (hB0 : 0 < nv B64 b) (hB : 2 * nv B64 b < B64 ^ b.length) :
    ∀ (m k t mant : Nat) (a : List Int), m + 2000 ≤ k → okl B64 a → a.length = b.length → nv B64 a < 2 * nv B64 b → mant + 1 ≤ 2 ^ t → t + m ≤ 60 →
    ∃ (mant' k' : Nat) (a' : List Int), 2000 ≤ k' ∧ k ≤ k' + m ∧ okl B64 a' ∧ a'.length = b.length ∧ nv B64 a' < 2 * nv B64 b ∧ mant' + 1 ≤ 2 ^ (t + m) ∧ nv B64 a' + 2 * nv B64 b * mant' = 2 ^ m * (nv B64 a + 2 * nv B64 b * mant) ∧
      round_Ratio.l1 k size neg topv a b unit (mant : Int) (unit + m - 1) = round_Ratio.l1 k' size neg topv a' b unit (mant' : Int) (unit - 1) := by
  intro m
  induction m with
  | zero =>
    intro k t mant a hk ha hla hlt hm ht
    exact ⟨mant, k, a, by omega, by omega, ha, hla, hlt, hm, by rw [Nat.pow_zero, Nat.one_mul], by rw [show unit + ((0 : Nat) : Int) - 1 = unit - 1 by omega]⟩
  | succ m ih =>
    intro k t mant a hk ha hla hlt hm ht
    obtain ⟨k, rfl⟩ : ∃ q, k = q + 1 := ⟨k - 1, by omega⟩
    have hp60 : 2 ^ (t + 1) ≤ 2 ^ 60 := Nat.pow_le_pow_right (by decide) (by omega)
    have hp1 : 2 ^ (t + 1) = 2 * 2 ^ t := by rw [Nat.pow_succ, Nat.mul_comm]
    have hless := less_ok ha hb hla (by omega) (k := k) (by omega)
    have hat : wrap64 (unit + ((m + 1 : Nat) : Int) - 1 - 1) = unit + (m : Int) - 1 := by rw [wrapi_id (by omega) (by omega)]; omega
    have hwm : IntKind.u64.wrap ((mant : Int) * 2) = ((mant * 2 ^ 1 : Nat) : Int) := by rw [wrapu_id (by omega) (by omega)]; omega
    have hor := or_disj mant 1 1 (by decide) (by omega)
    rw [show ((1 : Nat) : Int) = 1 from rfl] at hor
    rw [round_Ratio.l1, if_pos (by omega), bind_eq hless]
    by_cases hl : nv B64 a < nv B64 b
    · obtain ⟨a2, d1, d2, d3, d4⟩ := double_ok ha (by omega) (by rw [hla]; omega) (k := k) (by omega)
      rw [if_pos (decide_eq_true hl), bind_eq d1, hwm, hat]
      obtain ⟨m', k', a', x1, x2, x3, x4, x5, x6, x7, x8⟩ := ih k (t + 1) (mant * 2 ^ 1) a2 (by omega) d2 (by omega) (by omega) (by omega) (by omega)
      refine ⟨m', k', a', x1, by omega, x3, x4, x5, by rw [show t + (m + 1) = t + 1 + m by omega]; exact x6, ?_, x8⟩
      rw [x7, d4, Nat.pow_succ, Nat.pow_succ, Nat.mul_assoc (2 ^ m)]
      congr 1
      rw [Nat.mul_add, Nat.pow_zero, Nat.one_mul, ← Nat.mul_assoc, Nat.mul_comm 2 (2 * nv B64 b * mant)]
    · obtain ⟨a1, o1, o2, o3, o4⟩ := off_ok ha hb hla (by omega) (by omega) (k := k) (by omega)
      obtain ⟨a2, d1, d2, d3, d4⟩ := double_ok o2 (by omega) (by rw [o3, hla]; omega) (k := k) (by omega)
      rw [if_neg (by simpa using hl), bind_eq o1, bind_eq d1, hwm, hor, hat]
      obtain ⟨m', k', a', x1, x2, x3, x4, x5, x6, x7, x8⟩ := ih k (t + 1) (mant * 2 ^ 1 + 1) a2 (by omega) d2 (by omega) (by omega) (by omega) (by omega)
      refine ⟨m', k', a', x1, by omega, x3, x4, x5, by rw [show t + (m + 1) = t + 1 + m by omega]; exact x6, ?_, x8⟩
      rw [x7, d4, show 2 ^ (m + 1) = 2 ^ m * 2 from Nat.pow_succ _ _, Nat.mul_assoc (2 ^ m)]
      congr 1
      have e1 : 2 * nv B64 b * (mant * 2 ^ 1 + 1) = 2 * (2 * nv B64 b * mant) + 2 * nv B64 b := by
        rw [Nat.mul_add, Nat.mul_one, Nat.pow_one, ← Nat.mul_assoc, Nat.mul_comm (2 * nv B64 b * mant)]
      rw [e1]
      generalize 2 * nv B64 b * mant = z
      omega
theorem half_eq {m : Nat} (hm : m < 18446744073709551616) : (Go.bits .and .u64 (m : Int) 1 == 1) = decide (m % 2 = 1) := by
  rw [and_one hm]
  by_cases c : m % 2 = 1
  · rw [decide_eq_true c, c]; rfl
  · rw [decide_eq_false c, show m % 2 = 0 by omega]; rfl
/-- From the loop's begin on. -/
theorem ratio_j1 {size F E S : Nat} {L : Int} {I : Nat} (h : IsFmt size F E S L I) (neg : Bool) {n d : Nat} (hd0 : 0 < d) {e : Int} (he : fb n d e) (heb : -10000 ≤ e) (heb2 : e ≤ 10000) (exp : Int) (he0 : -1099511627776 ≤ exp) (he1 : exp ≤ 1099511627776)
    {a b : List Int} (ha : okl B64 a) (hb : okl B64 b) (hla : a.length = b.length) (lb : b.length ≤ 1000) (hB0 : 0 < nv B64 b) (hB : 2 * nv B64 b < B64 ^ b.length) (hlt : nv B64 a < 2 * nv B64 b) (hR : nv B64 a * d * pu e = n * nv B64 b * pd e)
    (o : Option Nat) (ho : 0 < man n d exp (lst F L e exp) false → ∀ (neg : Bool) (k : Nat), bits_Pack.f (k + 200) neg 2 ((man n d exp (lst F L e exp) false : Nat) : Int) (lst F L e exp) size = some (pv S neg o)) {k : Nat} (hk : 3000 ≤ k) :
    round_Ratio.j1 k size neg exp ((F : Int) + 1) L e a b = some ((ans S I neg (man n d exp (lst F L e exp) false) o).1, errv (ans S I neg (man n d exp (lst F L e exp) false) o).2) := by
  obtain ⟨hF0, hF, hS, hFS, hL, _, hF23⟩ := fmt_small h
  have hF52 : F ≤ 52 := by rcases h with ⟨_, rfl, _⟩ | ⟨_, rfl, _⟩ <;> omega
  have hz := man_zero (F := F) (L := L) (exp := exp) hd0 he
  have hlst : lst F L e exp = max (e + exp - F) L := rfl
  obtain ⟨k, rfl⟩ : ∃ q, k = q + 2 := ⟨k - 2, by omega⟩
  have hj2 : round_Ratio.j1 (k + 2) size neg exp ((F : Int) + 1) L e a b = round_Ratio.l1 k size neg (e + exp) a b (lst F L e exp - 1) 0 (e + exp) := by
    rw [round_Ratio.j1, wrapi_id (n := e + exp) (by omega) (by omega), wrapi_id (n := e + exp - ((F : Int) + 1)) (by omega) (by omega), wrapi_id (n := L - 1) (by omega) (by omega), mx_int]
    by_cases h2 : e + exp > 2000
    · rw [if_pos h2, round_Ratio.j2, show e + exp - ((F : Int) + 1) = lst F L e exp - 1 by omega]
    · rw [if_neg h2, round_Ratio.j2, show max (e + exp - ((F : Int) + 1)) (L - 1) = lst F L e exp - 1 by omega]
  rw [hj2]
  generalize hlast : lst F L e exp = last at *
  have hw : wrap64 (last - 1 + 1) = last := by rw [wrapi_id (by omega) (by omega)]; omega
  by_cases htop : e + exp < last - 1
  · have hm0 := hz htop false
    obtain ⟨k, rfl⟩ : ∃ q, k = q + 1 := ⟨k - 1, by omega⟩
    rw [hm0]
    have hp := pack_ok h neg (mant := 0) (Q := 0) (by decide) last (decide (0 % 2 = 1)) true (by simp) o (fun c => absurd c (by decide)) (k - 203)
    rw [show k - 203 + 203 = k by omega, ← half_eq (by decide), Int.ofNat_zero] at hp
    rw [round_Ratio.l1, if_neg (by omega), if_pos htop, show (0 : Int) / 2 = 0 from rfl, hw, bind_eq hp]
  · obtain ⟨N, hN⟩ : ∃ N : Nat, e + exp - last + 2 = (N : Int) := ⟨(e + exp - last + 2).toNat, by omega⟩
    have hN54 : N ≤ 54 := by omega
    obtain ⟨m', k', a', x1, x2, x3, x4, x5, x6, x7, x8⟩ := div_l1 size neg (e + exp) (last - 1) (by omega) (by omega) hb lb hB0 hB N k 0 0 a (by omega) ha hla hlt (by decide) (by omega)
    rw [show last - 1 + (N : Int) - 1 = e + exp by omega, Int.ofNat_zero] at x8
    rw [x8]
    rw [Nat.mul_zero, Nat.add_zero, Nat.zero_add] at *
    have hm54 : 2 ^ N ≤ 2 ^ 54 := Nat.pow_le_pow_right (by decide) hN54
    have hman : man n d exp last false = rq (nv B64 a' + 2 * nv B64 b * m') (4 * nv B64 b) false := by
      rw [x7]
      unfold man
      refine rq_cross (Nat.mul_pos hd0 (pd_pos _)) (by omega) ?_ false
      have key : n * pu (exp - last) * (4 * nv B64 b) * pu e = 2 ^ N * nv B64 a * (d * pd (exp - last)) * pu e := by
        have b1 : 2 ^ N * nv B64 a * (d * pd (exp - last)) * pu e = nv B64 a * d * pu e * (2 ^ N * pd (exp - last)) := by
          generalize 2 ^ N = p1; generalize nv B64 a = p2; generalize pd (exp - last) = p3; generalize pu e = p4
          rw [Nat.mul_assoc p1, Nat.mul_assoc p1, Nat.mul_assoc (p2 * d), Nat.mul_left_comm p4, Nat.mul_left_comm (p2 * d) p1]
          congr 1
          rw [← Nat.mul_assoc p2, Nat.mul_assoc (p2 * d), Nat.mul_comm p3]
        have b2 : n * pu (exp - last) * (4 * nv B64 b) * pu e = n * nv B64 b * (4 * (pu (exp - last) * pu e)) := by
          generalize pu (exp - last) = p1; generalize nv B64 b = p2; generalize pu e = p3
          ac_rfl
        have b3 : 4 * (pu (exp - last) * pu e) = pd e * (2 ^ N * pd (exp - last)) := by
          unfold pu pd
          rw [show (4 : Nat) = 2 ^ 2 from rfl]
          simp only [← Nat.pow_add]
          congr 1; omega
        rw [b1, b2, hR, b3, Nat.mul_assoc (n * nv B64 b)]
      exact Nat.eq_of_mul_eq_mul_right (pu_pos e) key
    have hsteps := rq_steps hB0 x5 (q := m')
    rw [← hman] at hsteps
    obtain ⟨k', rfl⟩ : ∃ q, k' = q + 1 := ⟨k' - 1, by omega⟩
    have hzero := zero_ok x3 (by omega) (k := k') (by omega)
    have hp := pack_ok h neg (mant := m' / 2) (Q := man n d exp last false) (by omega) last (decide (m' % 2 = 1)) (!decide (nv B64 a' = 0)) (by
      rw [hsteps]
      by_cases g : m' % 2 = 1 ∧ (nv B64 a' ≠ 0 ∨ m' / 2 % 2 = 1)
      · rw [if_pos g, if_pos ⟨decide_eq_true g.1, by
          rcases g.2 with g2 | g2
          · left; simpa using g2
          · exact .inr g2⟩]
      · rw [if_neg g, if_neg (by
          rintro ⟨g1, g2⟩
          refine g ⟨of_decide_eq_true g1, ?_⟩
          rcases g2 with g2 | g2
          · left; simpa using g2
          · exact .inr g2)]) o ho (k' - 203)
    rw [show k' - 203 + 203 = k' by omega, ← half_eq (by omega)] at hp
    rw [round_Ratio.l1, if_neg (by omega), if_neg (by omega), bind_eq hzero, show (m' : Int) / 2 = ((m' / 2 : Nat) : Int) by omega, hw, bind_eq hp]
/-- The program's Ratio, on good rows. -/
theorem Ratio_ok {size F E S : Nat} {L : Int} {I : Nat} (h : IsFmt size F E S L I) (neg : Bool) {n d : List Int} (hn : okl B64 n) (hd : okl B64 d) (vn : vnum n = 0) (vd : vnum d = 0) (n0 : 0 < nv B64 n) (d0 : 0 < nv B64 d) (exp : Int) (he0 : -1099511627776 ≤ exp) (he1 : exp ≤ 1099511627776) :
    ∃ e, fb (nv B64 n) (nv B64 d) e ∧ -10000 ≤ e ∧ e ≤ 10000 ∧ ∀ (o : Option Nat), (0 < man (nv B64 n) (nv B64 d) exp (lst F L e exp) false → ∀ (neg : Bool) (k : Nat), bits_Pack.f (k + 200) neg 2 ((man (nv B64 n) (nv B64 d) exp (lst F L e exp) false : Nat) : Int) (lst F L e exp) size = some (pv S neg o)) → ∀ k, 10000 ≤ k →
    round_Ratio.f k size neg n d exp = some ((ans S I neg (man (nv B64 n) (nv B64 d) exp (lst F L e exp) false) o).1, errv (ans S I neg (man (nv B64 n) (nv B64 d) exp (lst F L e exp) false) o).2) := by
  obtain ⟨ln, tn⟩ := (vnum_zero n).1 vn
  obtain ⟨ld, td⟩ := (vnum_zero d).1 vd
  obtain ⟨Ln, x1, x2⟩ := Bits_ok hn vn
  obtain ⟨Ld, y1, y2⟩ := Bits_ok hd vd
  have hnl : n.length ≠ 0 := fun c => by rw [List.length_eq_zero_iff.1 c] at n0; simp [nv] at n0
  have hdl : d.length ≠ 0 := fun c => by rw [List.length_eq_zero_iff.1 c] at d0; simp [nv] at d0
  have bnd : ∀ {a : List Int} {La : Nat}, okl B64 a → a.length ≤ 128 → bl (nv B64 a) La → La ≤ 8192 := by
    intro a La ha hl hb
    obtain ⟨P, hP⟩ : ∃ P : Nat, P = 8192 := ⟨_, rfl⟩
    rw [← hP]
    have h1 := nv_lt b64_pos ha
    have h2 : B64 ^ a.length ≤ 2 ^ P := by
      have e1 : B64 = 2 ^ 64 := rfl
      rw [e1, ← Nat.pow_mul]
      exact Nat.pow_le_pow_right (by decide) (by omega)
    rcases Nat.lt_or_ge P La with c | c
    · exfalso
      have h3 : 2 ^ P ≤ 2 ^ (La - 1) := Nat.pow_le_pow_right (by decide) (by omega)
      rcases Nat.eq_zero_or_pos (nv B64 a) with g | g
      · have := hb.2.2 g; omega
      · have h4 := (hb.2.1 g).2
        exact absurd (Nat.lt_of_le_of_lt h4 (Nat.lt_of_lt_of_le h1 h2)) (Nat.not_lt.2 h3)
    · exact c
  have hLn := bnd hn ln x2
  have hLd := bnd hd ld y2
  have hfb := fb_of n0 d0 x2 y2
  refine ⟨_, hfb, by split <;> omega, by split <;> omega, fun o ho k hk => ?_⟩
  have hVn : nat_Valid.f n = some none := by rw [Valid_ok (by omega), vn]; rfl
  have hVd : nat_Valid.f d = some none := by rw [Valid_ok (by omega), vd]; rfl
  have rdn : rd_L1 ([n, d] : List (List Int)) 0 = n := rfl
  have rdd : rd_L1 ([n, d] : List (List Int)) 1 = d := rfl
  have w1 : wrap64 (0 + 1) = 1 := by unfold wrap64; omega
  have w2 : wrap64 (1 + 1) = 2 := by unfold wrap64; omega
  have wt : wrap64 ((Ln : Int) - (Ld : Int)) = (Ln : Int) - (Ld : Int) := wrapi_id (by omega) (by omega)
  have wt2 : wrap64 (-((Ln : Int) - (Ld : Int))) = -((Ln : Int) - (Ld : Int)) := wrapi_id (by omega) (by omega)
  have wt3 : wrap64 ((Ln : Int) - (Ld : Int) - 1) = (Ln : Int) - (Ld : Int) - 1 := wrapi_id (by omega) (by omega)
  obtain ⟨p, p1, p2, p3, p4⟩ := shifted_ok hn ln (n := ((Ld : Int) - (Ln : Int)).toNat) (by omega) (k := k - 3) (by omega)
  obtain ⟨q, q1, q2, q3, q4⟩ := shifted_ok hd ld (n := ((Ln : Int) - (Ld : Int)).toNat) (by omega) (k := k - 3) (by omega)
  have hmn : mx (-((Ln : Int) - (Ld : Int))) 0 = ((((Ld : Int) - (Ln : Int)).toNat : Nat) : Int) := by rw [mx_int]; omega
  have hmd : mx ((Ln : Int) - (Ld : Int)) 0 = ((((Ln : Int) - (Ld : Int)).toNat : Nat) : Int) := by rw [mx_int]; omega
  obtain ⟨a, b, s1, s2, s3, s4, s5, s6, s7⟩ := psame_ok p2 q2 (by omega) (by omega)
  have hless := less_ok s2 s3 (by omega) (by omega) (k := k - 3) (by omega)
  obtain ⟨k, rfl⟩ : ∃ j, k = j + 3 := ⟨k - 3, by omega⟩
  rw [show k + 3 - 3 = k by omega] at *
  have hA : nv B64 a = nv B64 n * pd ((Ln : Int) - Ld) := by rw [s6, p4, Nat.mul_comm]; unfold pd; congr 2; omega
  have hBv : nv B64 b = nv B64 d * pu ((Ln : Int) - Ld) := by rw [s7, q4, Nat.mul_comm]; rfl
  have hB0 : 0 < nv B64 b := by rw [hBv]; exact Nat.mul_pos d0 (pu_pos _)
  have hroom : ∀ {V len : Nat}, V < B64 ^ len → 2 * V < B64 ^ (len + 1) := by
    intro V len hV
    have h1 : B64 ^ (len + 1) = B64 ^ len * B64 := Nat.pow_succ _ _
    have h3 : B64 ^ len * 2 ≤ B64 ^ len * B64 := Nat.mul_le_mul_left _ (by decide)
    rw [h1]; omega
  have hBr : 2 * nv B64 b < B64 ^ b.length := by
    have h1 := nv_lt b64_pos q2
    have h2 : B64 ^ q.length ≤ B64 ^ (max p.length q.length) := Nat.pow_le_pow_right b64_pos (by omega)
    rw [s5, s7]; exact hroom (Nat.lt_of_lt_of_le h1 h2)
  have hAr : 2 * nv B64 a < B64 ^ a.length := by
    have h1 := nv_lt b64_pos p2
    have h2 : B64 ^ p.length ≤ B64 ^ (max p.length q.length) := Nat.pow_le_pow_right b64_pos (by omega)
    rw [s4, s6]; exact hroom (Nat.lt_of_lt_of_le h1 h2)
  unfold round_Ratio.f
  rw [bind_eq (pformat_ok h), if_pos rfl, bind_eq rfl, round_Ratio.l0, if_pos (by simp), if_pos (by omega), if_pos (by simp), rdn, bind_eq hVn, if_pos (by rfl), w1, round_Ratio.l0, if_pos (by simp), if_pos (by omega), if_pos (by simp), rdd, bind_eq hVd, if_pos (by rfl), w2, round_Ratio.l0, if_neg (by simp), if_neg (by omega), bind_eq (far_ok he0 he1), if_neg (by simp), if_neg (by omega), bind_eq x1, bind_eq y1, wt, wt2, hmn, hmd, bind_eq p1, bind_eq q1, bind_eq s1, bind_eq hless]
  by_cases hlt : nv B64 n * pd ((Ln : Int) - Ld) < nv B64 d * pu ((Ln : Int) - Ld)
  · rw [if_pos hlt] at hfb ho ⊢
    obtain ⟨a2, d1, d2, d3, d4⟩ := double_ok s2 (by omega) hAr (k := k) (by omega)
    rw [if_pos (by rw [hA, hBv]; exact decide_eq_true hlt), bind_eq d1, wt3]
    refine ratio_j1 h neg d0 hfb (by omega) (by omega) exp he0 he1 d2 s3 (by omega) (by omega) hB0 hBr (by rw [d4, hA, hBv]; omega) ?_ o ho (by omega)
    rw [d4, hA, hBv]
    have e1 : pu ((Ln : Int) - Ld) * pd ((Ln : Int) - Ld - 1) = 2 * (pu ((Ln : Int) - Ld - 1) * pd ((Ln : Int) - Ld)) := by
      unfold pu pd
      rw [← Nat.pow_add, ← Nat.pow_add, Nat.mul_comm 2, ← Nat.pow_succ]; congr 1; omega
    have c1 : 2 * (nv B64 n * pd ((Ln : Int) - Ld)) * nv B64 d * pu ((Ln : Int) - Ld - 1) = nv B64 n * nv B64 d * (2 * (pu ((Ln : Int) - Ld - 1) * pd ((Ln : Int) - Ld))) := by
      generalize pd ((Ln : Int) - Ld) = z1; generalize pu ((Ln : Int) - Ld - 1) = z2; generalize nv B64 n = z3; generalize nv B64 d = z4
      rw [Nat.mul_left_comm (z3 * z4) 2, Nat.mul_assoc 2, Nat.mul_assoc 2]
      congr 1
      rw [Nat.mul_assoc z3 z1, Nat.mul_assoc z3 (z1 * z4), Nat.mul_assoc z3 z4]
      congr 1
      rw [Nat.mul_comm z1 z4, Nat.mul_assoc, Nat.mul_comm z1]
    have c2 : nv B64 n * (nv B64 d * pu ((Ln : Int) - Ld)) * pd ((Ln : Int) - Ld - 1) = nv B64 n * nv B64 d * (pu ((Ln : Int) - Ld) * pd ((Ln : Int) - Ld - 1)) := by
      rw [Nat.mul_assoc, Nat.mul_assoc, Nat.mul_assoc]
    rw [c1, c2, e1]
  · rw [if_neg hlt] at hfb ho ⊢
    rw [if_neg (by rw [hA, hBv]; simpa using hlt)]
    have hlt2 := hfb.2
    refine ratio_j1 h neg d0 hfb (by omega) (by omega) exp he0 he1 s2 s3 (by omega) (by omega) hB0 hBr (by rw [hA, hBv]; exact hlt2) ?_ o ho (by omega)
    rw [hA, hBv]
    generalize pd ((Ln : Int) - Ld) = z1; generalize pu ((Ln : Int) - Ld) = z2; generalize nv B64 n = z3; generalize nv B64 d = z4
    rw [Nat.mul_assoc, Nat.mul_assoc, Nat.mul_assoc, Nat.mul_comm z1, Nat.mul_assoc z4]
end Go.Proofs.YtbjmfocjigikgaaDoor.XiB
end
section
namespace Go.Proofs.YtbjmfocjigikgaaDoor.XiB
open Go.RowKit Go.Proofs.YtbjmfocjigikgaaDoor.Xi Go.Proofs.YtbjmfocjigikgaaDoor.A Go.Proofs.YtbjmfocjigikgaaDoor.L Go.Proofs.YtbjmfocjigikgaaDoor.Q Go.Proofs.YtbjmfocjigikgaaDoor.XiH Go.Proofs.YtbjmfocjigikgaaDoorW.PrintWords Go.Proofs.YtbjmfocjigikgaaDoorW.PrintLast Go.Proofs.YtbjmfocjigikgaaDoorW.PrintMore
set_option linter.unusedSimpArgs false
set_option linter.unusedVariables false
/-- No number: nought. -/
theorem Ratio_zero {size F E S : Nat} {L : Int} {I : Nat} (h : IsFmt size F E S L I) (neg : Bool) {n d : List Int} (vn : vnum n = 0) (vd : vnum d = 0) (hnl : n.length = 0) (hdl : d.length ≠ 0) (exp : Int) (he0 : -1099511627776 ≤ exp) (he1 : exp ≤ 1099511627776) (k : Nat) :
    round_Ratio.f (k + 3) size neg n d exp = some (((sgn S neg 0 : Nat) : Int), none) := by
  have ld := ((vnum_zero d).1 vd).1
  have hVn : nat_Valid.f n = some none := by rw [Valid_ok (by omega), vn]; rfl
  have hVd : nat_Valid.f d = some none := by rw [Valid_ok (by omega), vd]; rfl
  have rdn : rd_L1 ([n, d] : List (List Int)) 0 = n := rfl
  have rdd : rd_L1 ([n, d] : List (List Int)) 1 = d := rfl
  have w1 : wrap64 (0 + 1) = 1 := by unfold wrap64; omega
  have w2 : wrap64 (1 + 1) = 2 := by unfold wrap64; omega
  unfold round_Ratio.f
  rw [bind_eq (pformat_ok h), if_pos rfl, bind_eq rfl, round_Ratio.l0, if_pos (by simp), if_pos (by omega), if_pos (by simp), rdn, bind_eq hVn, if_pos (by rfl), w1, round_Ratio.l0, if_pos (by simp), if_pos (by omega), if_pos (by simp), rdd, bind_eq hVd, if_pos (by rfl), w2, round_Ratio.l0, if_neg (by simp), if_neg (by omega), bind_eq (far_ok he0 he1), if_neg (by simp), if_pos (by omega), bind_eq (pZero_ok h _ neg)]
end Go.Proofs.YtbjmfocjigikgaaDoor.XiB
end
section
namespace Go.Proofs.YtbjmfocjigikgaaDoor.XiB
open Go.RowKit Go.Proofs.YtbjmfocjigikgaaDoor.Xi Go.Proofs.YtbjmfocjigikgaaDoor.A Go.Proofs.YtbjmfocjigikgaaDoor.L Go.Proofs.YtbjmfocjigikgaaDoor.Q Go.Proofs.YtbjmfocjigikgaaDoor.XiH Go.Proofs.YtbjmfocjigikgaaDoorW.PrintWords Go.Proofs.YtbjmfocjigikgaaDoorW.PrintLast Go.Proofs.YtbjmfocjigikgaaDoorW.PrintMore
set_option linter.unusedSimpArgs false
set_option linter.unusedVariables false
theorem rq_mono {x x' y : Nat} (hy : 0 < y) (h : x ≤ x') : rq x y false ≤ rq x' y false := by
  have hq : x / y ≤ x' / y := Nat.div_le_div_right h
  have h1 := Nat.div_add_mod x y
  have h2 := Nat.div_add_mod x' y
  have hu : x' / y ≤ rq x' y false := by unfold rq; split <;> omega
  have hl := rq_le x y false
  rcases Nat.lt_or_ge (x / y) (x' / y) with c | c
  · omega
  · have e : x / y = x' / y := by omega
    have hr : x % y ≤ x' % y := by rw [e] at h1; omega
    unfold rq
    rw [e]
    by_cases g : y < 2 * (x % y) ∨ (2 * (x % y) = y ∧ (false = true ∨ x' / y % 2 = 1))
    · rw [if_pos g, if_pos (by
        rcases g with g | ⟨g, g2⟩
        · left; omega
        · by_cases g3 : 2 * (x' % y) = y
          · exact .inr ⟨g3, g2⟩
          · left; omega)]
      exact Nat.le_refl _
    · rw [if_neg g]; split <;> omega
theorem fb_mono {n n' d : Nat} {e e' : Int} (hd : 0 < d) (h : n ≤ n') (he : fb n d e) (he' : fb n' d e') : e ≤ e' := by
  rcases Int.lt_or_le e' e with hlt | hge
  · exfalso
    obtain ⟨h1, _⟩ := he
    obtain ⟨_, h2⟩ := he'
    have a1 : n' * pd e' * pd e < 2 * (d * pu e') * pd e := Nat.mul_lt_mul_of_pos_right h2 (pd_pos e)
    have a2 : d * pu e * pd e' ≤ n * pd e * pd e' := Nat.mul_le_mul_right _ h1
    have a3 : 2 * (pu e' * pd e) ≤ pu e * pd e' := by
      unfold pu pd
      rw [← Nat.pow_add, ← Nat.pow_add, show 2 * 2 ^ (e'.toNat + (-e).toNat) = 2 ^ (e'.toNat + (-e).toNat + 1) by rw [Nat.pow_succ, Nat.mul_comm]]
      exact Nat.pow_le_pow_right (by decide) (by omega)
    have a4 := Nat.mul_le_mul_left d a3
    have a5 : n' * pd e' * pd e = n' * (pd e' * pd e) := Nat.mul_assoc _ _ _
    have a6 : n * pd e * pd e' = n * (pd e' * pd e) := by ac_rfl
    have a7 : 2 * (d * pu e') * pd e = d * (2 * (pu e' * pd e)) := by ac_rfl
    have a8 : d * pu e * pd e' = d * (pu e * pd e') := Nat.mul_assoc _ _ _
    have a9 : n * (pd e' * pd e) ≤ n' * (pd e' * pd e) := Nat.mul_le_mul_right _ h
    omega
  · exact hge
/-- Above the least, a whole mantissa. -/
theorem man_ge {F n d : Nat} {L e exp : Int} (hd : 0 < d) (he : fb n d e) (h : lst F L e exp = e + exp - F) : 2 ^ F ≤ man n d exp (lst F L e exp) false := by
  rw [h]
  have hu : ∀ x y : Nat, x / y ≤ rq x y false := by intro x y; unfold rq; split <;> omega
  unfold man
  refine Nat.le_trans ?_ (hu _ _)
  rw [Nat.le_div_iff_mul_le (Nat.mul_pos hd (pd_pos _))]
  generalize hs : exp - (e + exp - F) = s
  have a1 : d * pu e * pu s ≤ n * pd e * pu s := Nat.mul_le_mul_right _ he.1
  have a2 : 2 ^ F * (pd s * pd e) ≤ pu e * pu s := by
    unfold pu pd
    rw [← Nat.pow_add, ← Nat.pow_add, ← Nat.pow_add]
    exact Nat.pow_le_pow_right (by decide) (by omega)
  have a3 := Nat.mul_le_mul_left d a2
  have b1 : 2 ^ F * (d * pd s) * pd e = d * (2 ^ F * (pd s * pd e)) := by generalize 2 ^ F = z; ac_rfl
  have b2 : d * pu e * pu s = d * (pu e * pu s) := Nat.mul_assoc _ _ _
  have b3 : n * pd e * pu s = n * pu s * pd e := by ac_rfl
  have b4 : 2 ^ F * (d * pd s) * pd e ≤ n * pu s * pd e := by omega
  exact Nat.le_of_mul_le_mul_right b4 (pd_pos e)
/-- A fraction's bits, if there were no greatest. -/
def fbits (F : Nat) (L : Int) (n d : Nat) (exp e : Int) : Nat := (lst F L e exp - L).toNat * 2 ^ F + man n d exp (lst F L e exp) false
theorem lst_cases (F : Nat) (L e exp : Int) : lst F L e exp = e + exp - F ∨ lst F L e exp = L := by unfold lst; omega
theorem lst_ge (F : Nat) (L e exp : Int) : L ≤ lst F L e exp := by unfold lst; omega
theorem fbits_mono {F n n' d : Nat} {L exp e e' : Int} (hd : 0 < d) (h : n ≤ n') (he : fb n d e) (he' : fb n' d e') : fbits F L n d exp e ≤ fbits F L n' d exp e' := by
  have hee := fb_mono hd h he he'
  have hl : lst F L e exp ≤ lst F L e' exp := by unfold lst; omega
  have hL := lst_ge F L e exp
  unfold fbits
  rcases Int.lt_or_le (lst F L e exp) (lst F L e' exp) with c | c
  · have hc : lst F L e' exp = e' + exp - F := by rcases lst_cases F L e' exp with g | g <;> omega
    have hm := man_ge hd he' hc
    have hs := man_small (F := F) (L := L) (exp := exp) hd he false
    have hp : 2 ^ (F + 1) = 2 * 2 ^ F := by rw [Nat.pow_succ, Nat.mul_comm]
    generalize lst F L e exp = l1 at *
    generalize lst F L e' exp = l2 at *
    have h1 : ((l1 - L).toNat + 1) * 2 ^ F ≤ (l2 - L).toNat * 2 ^ F := Nat.mul_le_mul_right _ (by omega)
    rw [Nat.add_mul, Nat.one_mul] at h1
    omega
  · have hq : lst F L e exp = lst F L e' exp := by omega
    rw [← hq]
    refine Nat.add_le_add_left ?_ _
    unfold man
    exact rq_mono (Nat.mul_pos hd (pd_pos _)) (Nat.mul_le_mul_right _ h)
theorem Pack_bits {size F E S : Nat} {L : Int} {I : Nat} (h : IsFmt size F E S L I) {Q : Nat} {last : Int} (hQ0 : 0 < Q) (hQ : Q ≤ 2 ^ (F + 1)) (hL : L ≤ last) (hn : 2 ^ F ≤ Q ∨ last = L) (neg : Bool) (k : Nat) :
    bits_Pack.f (k + 200) neg 2 (Q : Int) last size = some (outb S I neg ((last - L).toNat * 2 ^ F + Q)) := by
  obtain ⟨hF0, hF, hS, hFS, hLL, _, hF23⟩ := fmt_small h
  have h64 : 2 ^ (F + 1) ≤ 2 ^ 63 := Nat.pow_le_pow_right (by decide) (by omega)
  by_cases hfar : 5000 < last
  · rw [Pack_far h hQ0 (by omega) (.inr hfar) neg (k + 199)]
    unfold outb
    rw [if_pos]
    rcases h with ⟨rfl, rfl, rfl, rfl, rfl, rfl⟩ | ⟨rfl, rfl, rfl, rfl, rfl, rfl⟩ <;> omega
  · by_cases hc : Q = 2 ^ (F + 1)
    · subst hc
      exact Pack_carry h hL (by omega) neg (k + 198)
    · have := Pack_val h (m := Q) (d := 0) (e := last) hQ0 (by omega) (by omega) (by omega) (by rw [Nat.pow_zero, Nat.mul_one]; omega) (by omega) (by rw [Nat.pow_zero, Nat.mul_one]; omega) neg (k + 198)
      rw [Nat.pow_zero, Nat.mul_one, show last - ((0 : Nat) : Int) - L = last - L by omega] at this
      exact this
/-- What the program's Ratio answers, by the bits. -/
def outr (S I : Nat) (neg : Bool) (b : Nat) : Int × Int := if I ≤ b then (((sgn S neg I : Nat) : Int), 4) else (((sgn S neg b : Nat) : Int), 0)
def vbits (F : Nat) (L : Int) (n d : Nat) (exp : Int) (b : Nat) : Prop := (n = 0 ∧ b = 0) ∨ (0 < n ∧ ∃ e, fb n d e ∧ b = fbits F L n d exp e)
theorem vbits_mono {F n n' d b b' : Nat} {L exp : Int} (hd : 0 < d) (h : n ≤ n') (hb : vbits F L n d exp b) (hb' : vbits F L n' d exp b') : b ≤ b' := by
  rcases hb with ⟨_, rfl⟩ | ⟨h0, e, he, rfl⟩
  · omega
  · rcases hb' with ⟨h1, _⟩ | ⟨h1, e', he', rfl⟩
    · omega
    · exact fbits_mono hd h he he'
theorem Ratio_bits {size F E S : Nat} {L : Int} {I : Nat} (h : IsFmt size F E S L I) {n d : List Int} (hn : okl B64 n) (hd : okl B64 d) (vn : vnum n = 0) (vd : vnum d = 0) (hdl : d.length ≠ 0) (exp : Int) (he0 : -1099511627776 ≤ exp) (he1 : exp ≤ 1099511627776) :
    ∃ b, vbits F L (nv B64 n) (nv B64 d) exp b ∧ ∀ (neg : Bool) (k : Nat), 10000 ≤ k → round_Ratio.f k size neg n d exp = some ((outr S I neg b).1, errv (outr S I neg b).2) := by
  obtain ⟨ln, tn⟩ := (vnum_zero n).1 vn
  obtain ⟨ld, td⟩ := (vnum_zero d).1 vd
  obtain ⟨hI0, hI1, hS63⟩ := fmt_I h
  have hd0 : 0 < nv B64 d := by
    rcases Nat.eq_zero_or_pos (nv B64 d) with g | g
    · exact absurd (by rw [(nv_eq_zero b64_one hd td).1 g]; rfl) hdl
    · exact g
  rcases Nat.eq_zero_or_pos (nv B64 n) with g | g
  · refine ⟨0, .inl ⟨g, rfl⟩, fun neg k hk => ?_⟩
    have z1 : n.length = 0 := by rw [(nv_eq_zero b64_one hn tn).1 g]; rfl
    have := Ratio_zero h neg vn vd z1 hdl exp he0 he1 (k - 3)
    rw [show k - 3 + 3 = k by omega] at this
    rw [this]
    unfold outr
    rw [if_neg (by omega)]; rfl
  · obtain ⟨e, e1, _, _, _⟩ := Ratio_ok h false hn hd vn vd g hd0 exp he0 he1
    refine ⟨_, .inr ⟨g, e, e1, rfl⟩, fun neg k hk => ?_⟩
    obtain ⟨f, f1, _, _, f4⟩ := Ratio_ok h neg hn hd vn vd g hd0 exp he0 he1
    have hf := fb_unique hd0 f1 e1
    subst hf
    have hsm := man_small (F := F) (L := L) (exp := exp) hd0 f1 false
    have hge := fun c => man_ge (L := L) hd0 f1 (F := F) (exp := exp) c
    have hL := lst_ge F L f exp
    have hcs := lst_cases F L f exp
    unfold fbits
    generalize hQ : man (nv B64 n) (nv B64 d) exp (lst F L f exp) false = Q at *
    generalize lst F L f exp = last at *
    have hnorm : 2 ^ F ≤ Q ∨ last = L := by
      rcases hcs with c | c
      · exact .inl (hge c)
      · exact .inr c
    have h4 := f4 (if I ≤ (last - L).toNat * 2 ^ F + Q then none else some ((last - L).toNat * 2 ^ F + Q)) (fun c neg k => by
      rw [Pack_bits h c (by omega) hL hnorm neg k]
      unfold outb
      by_cases g : I ≤ (last - L).toNat * 2 ^ F + Q
      · rw [if_pos g, if_pos g]; rfl
      · rw [if_neg g, if_neg g]; rfl) k hk
    rw [h4]
    unfold outr ans
    by_cases c : Q = 0
    · have hl : last = L := by
        rcases hnorm with g | g
        · have := Nat.two_pow_pos F; omega
        · exact g
      subst hl
      rw [if_pos c, c, show (last - last).toNat = 0 by omega, Nat.zero_mul, Nat.add_zero, if_neg (by omega)]
    · rw [if_neg c]
      by_cases g : I ≤ (last - L).toNat * 2 ^ F + Q
      · rw [if_pos g, if_pos g]
      · rw [if_neg g, if_neg g]
end Go.Proofs.YtbjmfocjigikgaaDoor.XiB
end
