/- My texts A, L, Q, Rq, Hx, XoB, XoC, XoD, XoR, XoP, XoK, XoV, XoW, XoT, XoG, XoPb, XoHr, XoHo, XoHc, XoZ, XoY, XoU, XoE, XoO, XoBg, XoBn, merged. -/
import Derived.Laws.Bits64b
import Derived.Laws.BitsLemmas
import Derived.Lib.TrailingZeros
import Derived.Lib.BitFns
import Derived.Test.YtbnmchaldolpfaaDoorWMore
import Derived.Test.YtbnmchaldolpfaaDoorWLast
import Derived.Test.YtbnmchaldolpfaaDoorWWords
import Derived.Test.YtbnmchaldolpfaaDoorXox1
import Derived.Test.YtbnmchaldolpfaaDoorXox2
import Derived.Test.YtbnmchaldolpfaaDoorXox3
import Derived.Test.YtbnmchaldolpfaaDoorXox5
import Derived.Test.YtbnmchaldolpfaaDoorXox6
import Derived.Test.YtbnmchaldolpfaaDoorXox7
import Derived.Test.YtbnmchaldolpfaaDoorXox8
import Derived.Test.YtbnmchaldolpfaaDoorXox4
import Derived.Test.YtbnmchaldolpfaaDoorXox0
import Derived.Test.YtbnmchaldolpfaaDoorXox11
import Derived.Test.YtbnmchaldolpfaaDoorXox10
import Derived.Test.YtbnmchaldolpfaaDoorXox9
section
namespace Go.Proofs.YtbnmchaldolpfaaDoor.A
open Go.RowKit Go.Proofs.YtbnmchaldolpfaaDoorW.PrintMore Go.Proofs.YtbnmchaldolpfaaDoorW.PrintWords Go.Proofs.YtbnmchaldolpfaaDoorW.PrintLast
set_option linter.unusedSimpArgs false

theorem wrapu (n : Int) : IntKind.u64.wrap n = n % 18446744073709551616 := by simp [IntKind.wrap, IntKind.signed, IntKind.bits]
theorem wrapu_id {n : Int} (h0 : 0 ≤ n) (h1 : n < 18446744073709551616) : IntKind.u64.wrap n = n := by rw [wrapu]; omega
theorem wrapi_id {n : Int} (h0 : -9223372036854775808 ≤ n) (h1 : n < 9223372036854775808) : wrap64 n = n := by unfold wrap64; omega
theorem wf_u64 {a : Int} (h : (Lit.int .u64 a).wf = true) : 0 ≤ a ∧ a < 18446744073709551616 := by
  simp only [Lit.wf, IntKind.min, IntKind.max, IntKind.signed, IntKind.bits, Bool.and_eq_true, decide_eq_true_eq] at h
  simp at h; omega
theorem pow_le64 {n : Nat} (h : n ≤ 64) : 2 ^ n ≤ 18446744073709551616 := by
  have : 2 ^ n ≤ 2 ^ 64 := Nat.pow_le_pow_right (by decide) h
  omega
theorem shl_u (x n : Nat) (h : n ≤ 64) : shl .u64 (x : Int) (n : Int) = ((x * 2 ^ n % 18446744073709551616 : Nat) : Int) := by
  unfold shl
  have e : min (n : Int).toNat IntKind.u64.bits = n := by simp [IntKind.bits]; omega
  have e2 : (x : Int) * 2 ^ n = ((x * 2 ^ n : Nat) : Int) := by rw [Int.natCast_mul, Int.natCast_pow]; rfl
  rw [e, wrapu, e2]
  omega
theorem shl_fit (x n : Nat) (h : n ≤ 64) (hx : x * 2 ^ n < 18446744073709551616) : shl .u64 (x : Int) (n : Int) = ((x * 2 ^ n : Nat) : Int) := by
  rw [shl_u x n h, Nat.mod_eq_of_lt hx]
theorem shl1 (n : Nat) (h : n < 64) : shl .u64 1 (n : Int) = ((2 ^ n : Nat) : Int) := by
  have h1 : 2 ^ n < 18446744073709551616 := by
    have : 2 ^ n < 2 ^ 64 := Nat.pow_lt_pow_right (by decide) h
    omega
  have := shl_fit 1 n (by omega) (by omega)
  simpa using this
theorem shr_u (x n : Nat) (h : n ≤ 64) : shr .u64 (x : Int) (n : Int) = ((x / 2 ^ n : Nat) : Int) := by
  unfold shr
  have e : min (n : Int).toNat IntKind.u64.bits = n := by simp [IntKind.bits]; omega
  rw [e, Int.natCast_ediv, Int.natCast_pow]
  rfl
theorem mask_u (k : Nat) (h : k < 64) : IntKind.u64.wrap (shl .u64 1 (k : Int) - 1) = ((2 ^ k - 1 : Nat) : Int) := by
  rw [shl1 k h]
  have h1 := pow_le64 (show k ≤ 64 by omega)
  have h2 : 0 < 2 ^ k := Nat.two_pow_pos k
  rw [wrapu_id] <;> omega
theorem and_u (a b : Nat) (ha : a < 18446744073709551616) (hb : b < 18446744073709551616) : Go.bits .and .u64 (a : Int) (b : Int) = ((a &&& b : Nat) : Int) := bits_and_u64_nat a b ha hb
theorem or_u (a b : Nat) (ha : a < 18446744073709551616) (hb : b < 18446744073709551616) : Go.bits .or .u64 (a : Int) (b : Int) = ((a ||| b : Nat) : Int) := bits_or_u64_nat a b ha hb
theorem and_mask (a k : Nat) (ha : a < 18446744073709551616) (hk : k ≤ 64) : Go.bits .and .u64 (a : Int) ((2 ^ k - 1 : Nat) : Int) = ((a % 2 ^ k : Nat) : Int) := by
  have h1 := pow_le64 hk
  have h2 : 0 < 2 ^ k := Nat.two_pow_pos k
  rw [and_u a _ ha (by omega), Nat.and_two_pow_sub_one_eq_mod]
theorem or_disj (a b k : Nat) (hb : b < 2 ^ k) (h : a * 2 ^ k + b < 18446744073709551616) : Go.bits .or .u64 ((a * 2 ^ k : Nat) : Int) (b : Int) = ((a * 2 ^ k + b : Nat) : Int) := by
  rw [or_u _ _ (by omega) (by omega)]
  congr 1
  rw [Nat.mul_comm a, ← Nat.two_pow_add_eq_or_of_lt hb]
theorem or_disj' (a b k : Nat) (hb : b < 2 ^ k) (h : a * 2 ^ k + b < 18446744073709551616) : Go.bits .or .u64 (b : Int) ((a * 2 ^ k : Nat) : Int) = ((a * 2 ^ k + b : Nat) : Int) := by
  rw [or_u _ _ (by omega) (by omega), Nat.or_comm]
  congr 1
  rw [Nat.mul_comm a, ← Nat.two_pow_add_eq_or_of_lt hb]
theorem bitLen_le64 (x : Nat) (h : x < 18446744073709551616) : Lib.bitLen x ≤ 64 := Lib.bitLen_le x 64 (by decide) (by omega)
theorem blen_spec : ∀ (b x : Nat), Lib.bitLen x = b → 0 < x → x < 18446744073709551616 → 0 < b ∧ 2 ^ (b - 1) ≤ x ∧ x < 2 ^ b
  | 0, x, hb, h0, h => by
    have := Lib.bitLen_half x (by omega) (by omega)
    omega
  | b + 1, x, hb, h0, h => by
    have hh := Lib.bitLen_half x (by omega) (by omega)
    by_cases h1 : x / 2 = 0
    · have hx : x = 1 := by omega
      subst hx
      have : Lib.bitLen (1 / 2) = 0 := by decide
      have : b = 0 := by omega
      subst this
      exact ⟨by omega, by decide, by decide⟩
    · have ih := blen_spec b (x / 2) (by omega) (by omega) (by omega)
      obtain ⟨i0, i1, i2⟩ := ih
      have e1 : 2 ^ (b + 1) = 2 ^ b * 2 := Nat.pow_succ ..
      have e2 : 2 ^ b = 2 ^ (b - 1) * 2 := by rw [← Nat.pow_succ]; congr 1; omega
      refine ⟨by omega, ?_, by omega⟩
      show 2 ^ b ≤ x
      omega
theorem ctz_spec {x : Nat} (h0 : 0 < x) (h : x < 18446744073709551616) : ∃ m, x = (2 * m + 1) * 2 ^ Lib.ctz 64 x ∧ Lib.ctz 64 x < 64 := by
  unfold Lib.ctz
  rw [if_neg (by omega)]
  obtain ⟨m, h1, h2⟩ := Lib.ctzFrom_spec 64 x h0 (by omega)
  exact ⟨m, by rw [Nat.mul_comm]; exact h1, h2⟩
theorem u64ok_of {a : Nat} (h : a < 18446744073709551616) : decide ((0 : Int) ≤ (a : Int) ∧ (a : Int) < 18446744073709551616) = true := decide_eq_true ⟨by omega, by omega⟩
end Go.Proofs.YtbnmchaldolpfaaDoor.A
end
section
namespace Go.Proofs.YtbnmchaldolpfaaDoor.L
set_option linter.unusedVariables false
/-- The value of a row of digits in base B, the lowest first. -/
def nv (B : Nat) : List Int → Nat
  | [] => 0
  | x :: l => x.toNat + B * nv B l
/-- All are digits. -/
def okl (B : Nat) (l : List Int) : Prop := ∀ x ∈ l, 0 ≤ x ∧ x < (B : Int)
/-- No nought on top. -/
def top (l : List Int) : Prop := ∀ x, l.getLast? = some x → x ≠ 0
theorem okl_nil (B : Nat) : okl B [] := fun x h => by cases h
theorem okl_cons {B : Nat} {x : Int} {l : List Int} : okl B (x :: l) ↔ (0 ≤ x ∧ x < (B : Int)) ∧ okl B l := by
  unfold okl; simp
theorem okl_append {B : Nat} {a b : List Int} : okl B (a ++ b) ↔ okl B a ∧ okl B b := by
  unfold okl; simp only [List.mem_append]
  exact ⟨fun h => ⟨fun x hx => h x (.inl hx), fun x hx => h x (.inr hx)⟩, fun h x hx => hx.elim (h.1 x) (h.2 x)⟩
theorem okl_take {B : Nat} {l : List Int} (h : okl B l) (n : Nat) : okl B (l.take n) := fun x hx => h x (List.mem_of_mem_take hx)
theorem okl_zeros (B n : Nat) (hB : 0 < B) : okl B (List.replicate n 0) := by
  intro x hx
  rw [List.mem_replicate] at hx
  omega
theorem okl_set {B : Nat} {l : List Int} (h : okl B l) (i : Nat) {x : Int} (hx : 0 ≤ x ∧ x < (B : Int)) : okl B (l.set i x) := by
  intro y hy
  rcases List.mem_or_eq_of_mem_set hy with h1 | h1
  · exact h y h1
  · subst h1; exact hx
theorem okl_get {B : Nat} {l : List Int} (h : okl B l) (i : Nat) (hB : 0 < B) : 0 ≤ l.getD i 0 ∧ l.getD i 0 < (B : Int) := by
  rcases Nat.lt_or_ge i l.length with hi | hi
  · have : l.getD i 0 = l[i] := by simp [List.getD, hi]
    rw [this]; exact h _ (List.getElem_mem hi)
  · have : l.getD i 0 = 0 := by simp [List.getD, hi]
    rw [this]; omega
theorem nv_append (B : Nat) (b : List Int) : ∀ a : List Int, nv B (a ++ b) = nv B a + B ^ a.length * nv B b
  | [] => by simp [nv]
  | x :: l => by
    rw [List.cons_append, nv, nv, nv_append B b l, List.length_cons, Nat.pow_succ, Nat.mul_add, Nat.mul_comm (B ^ l.length) B, Nat.mul_assoc, Nat.add_assoc]
theorem nv_lt {B : Nat} (hB : 0 < B) : ∀ {l : List Int}, okl B l → nv B l < B ^ l.length
  | [], _ => by simp [nv]
  | x :: l, h => by
    obtain ⟨hx, hl⟩ := okl_cons.1 h
    have ih := nv_lt hB hl
    rw [nv, List.length_cons, Nat.pow_succ, Nat.mul_comm (B ^ l.length)]
    have h1 : nv B l + 1 ≤ B ^ l.length := ih
    have h2 := Nat.mul_le_mul_left B h1
    rw [Nat.mul_add, Nat.mul_one] at h2
    omega
theorem nv_zeros (B : Nat) : ∀ n, nv B (List.replicate n 0) = 0
  | 0 => rfl
  | n + 1 => by rw [List.replicate_succ, nv, nv_zeros B n]; rfl
theorem nv_take_drop (B : Nat) (l : List Int) (i : Nat) (hi : i ≤ l.length) : nv B l = nv B (l.take i) + B ^ i * nv B (l.drop i) := by
  have h := nv_append B (l.drop i) (l.take i)
  rw [List.take_append_drop, List.length_take, Nat.min_eq_left hi] at h
  exact h
theorem drop_get {l : List Int} {i : Nat} (hi : i < l.length) : l.drop i = l.getD i 0 :: l.drop (i + 1) := by
  rw [List.drop_eq_getElem_cons hi]
  simp [List.getD, hi]
theorem take_get {l : List Int} {i : Nat} (hi : i < l.length) : l.take (i + 1) = l.take i ++ [l.getD i 0] := by
  rw [List.take_succ_eq_append_getElem hi]
  simp [List.getD, hi]
theorem nv_take_succ (B : Nat) {l : List Int} {i : Nat} (hi : i < l.length) : nv B (l.take (i + 1)) = nv B (l.take i) + B ^ i * (l.getD i 0).toNat := by
  rw [take_get hi, nv_append, List.length_take, Nat.min_eq_left (by omega)]
  simp [nv]
theorem nv_snoc (B : Nat) (l : List Int) (x : Int) : nv B (l ++ [x]) = nv B l + B ^ l.length * x.toNat := by
  rw [nv_append]; simp [nv]
theorem nv_set (B : Nat) : ∀ {l : List Int} {i : Nat} (x : Int), i < l.length → nv B (l.set i x) + B ^ i * (l.getD i 0).toNat = nv B l + B ^ i * x.toNat
  | [], _, _, h => by simp at h
  | y :: l, 0, x, _ => by simp [nv]; omega
  | y :: l, i + 1, x, h => by
    have ih := nv_set B (l := l) (i := i) x (by simpa using h)
    have e1 : (y :: l).getD (i + 1) 0 = l.getD i 0 := by simp
    rw [List.set_cons_succ, nv, nv, e1, Nat.pow_succ, Nat.mul_comm (B ^ i) B, Nat.mul_assoc, Nat.mul_assoc]
    have := congrArg (B * ·) ih
    simp only [Nat.mul_add] at this
    omega
theorem top_nil : top [] := fun x h => by simp at h
theorem top_snoc {l : List Int} {x : Int} (h : x ≠ 0) : top (l ++ [x]) := fun y hy => by simp at hy; omega
theorem top_ge {B : Nat} (hB : 0 < B) {l : List Int} (hl : okl B l) (ht : top l) (hne : l ≠ []) : B ^ (l.length - 1) ≤ nv B l := by
  obtain ⟨m, x, rfl⟩ : ∃ m x, l = m ++ [x] := ⟨l.dropLast, l.getLast hne, (List.dropLast_concat_getLast hne).symm⟩
  have hx : x ≠ 0 := ht x (by simp)
  have hx2 := (hl x (by simp)).1
  rw [nv_snoc, List.length_append, List.length_singleton, Nat.add_sub_cancel]
  have : 1 ≤ x.toNat := by omega
  have := Nat.mul_le_mul_left (B ^ m.length) this
  omega
theorem top_length {B : Nat} (hB : 1 < B) {a : List Int} (ha : okl B a) (ta : top a) (n : Nat) : a.length ≤ n ↔ nv B a < B ^ n := by
  have hB0 : 0 < B := by omega
  constructor
  · intro h
    exact Nat.lt_of_lt_of_le (nv_lt hB0 ha) (Nat.pow_le_pow_right hB0 h)
  · intro h
    rcases Nat.lt_or_ge n a.length with hlt | hge
    · exfalso
      have hne : a ≠ [] := by rintro rfl; simp at hlt
      have h1 := top_ge hB0 ha ta hne
      have h3 : B ^ n ≤ B ^ (a.length - 1) := Nat.pow_le_pow_right hB0 (by omega)
      omega
    · exact hge
theorem nv_eq_zero {B : Nat} (hB : 1 < B) {a : List Int} (ha : okl B a) (ta : top a) : nv B a = 0 ↔ a = [] := by
  have := top_length hB ha ta 0
  rw [Nat.pow_zero] at this
  constructor
  · intro h
    have h1 := this.2 (by omega)
    exact List.length_eq_zero_iff.1 (by omega)
  · rintro rfl; rfl
/-- The digits of a value, without a nought on top. -/
def dig (B : Nat) : Nat → Nat → List Int
  | 0, _ => []
  | f + 1, n => if n = 0 then [] else ((n % B : Nat) : Int) :: dig B f (n / B)
end Go.Proofs.YtbnmchaldolpfaaDoor.L
end
section
namespace Go.Proofs.YtbnmchaldolpfaaDoor.Q
open Go.Proofs.YtbnmchaldolpfaaDoor.A
set_option linter.unusedVariables false
/-- m by two to the c, to the nearest, half to even. -/
def rhe (m c : Nat) : Nat := if 2 ^ c < 2 * (m % 2 ^ c) ∨ (2 * (m % 2 ^ c) = 2 ^ c ∧ m / 2 ^ c % 2 = 1) then m / 2 ^ c + 1 else m / 2 ^ c
theorem rhe_ge (m c : Nat) : m / 2 ^ c ≤ rhe m c := by unfold rhe; split <;> omega
theorem rhe_le (m c : Nat) : rhe m c ≤ m / 2 ^ c + 1 := by unfold rhe; split <;> omega
theorem rhe_small {m c : Nat} (h : 2 * m < 2 ^ c) : rhe m c = 0 := by
  unfold rhe
  rw [Nat.mod_eq_of_lt (by omega), Nat.div_eq_of_lt (by omega), if_neg (by omega)]
/-- m times two to the e on the grid of two to the last. -/
def gridv (m : Nat) (e last : Int) : Nat := if last ≤ e then m * 2 ^ (e - last).toNat else rhe m (last - e).toNat
/-- The exponent of the last bit of a format with F bits behind the first one, and L the least. -/
def lastOf (F : Nat) (L : Int) (m : Nat) (e : Int) : Int := max ((Lib.bitLen m : Int) - 1 + e - F) L
/-- The bits without a sign, if there were no greatest. -/
def bitsv (F : Nat) (L : Int) (m : Nat) (e : Int) : Nat := (lastOf F L m e - L).toNat * 2 ^ F + gridv m e (lastOf F L m e)
/-- Every number lies on its grid below two to the F + 1 (or is that), and from two to the F on, if the grid is not the finest. -/
theorem gridv_bounds {F : Nat} {L : Int} {m : Nat} (h0 : 0 < m) (h : m < 18446744073709551616) (e : Int) :
    gridv m e (lastOf F L m e) ≤ 2 ^ (F + 1) ∧ (2 ^ F ≤ gridv m e (lastOf F L m e) ∨ lastOf F L m e = L) ∧ (lastOf F L m e ≤ e → gridv m e (lastOf F L m e) < 2 ^ (F + 1)) := by
  obtain ⟨b0, b1, b2⟩ := blen_spec _ m rfl h0 h
  unfold lastOf
  generalize Lib.bitLen m = b at *
  generalize hl : max ((b : Int) - 1 + e - F) L = last
  unfold gridv
  by_cases hc : last ≤ e
  · rw [if_pos hc]
    have hb : (b : Int) - 1 + (e - last) ≤ F := by omega
    have hd : b + (e - last).toNat ≤ F + 1 := by omega
    have h1 : m * 2 ^ (e - last).toNat < 2 ^ (F + 1) := by
      have h2 : m * 2 ^ (e - last).toNat < 2 ^ b * 2 ^ (e - last).toNat := Nat.mul_lt_mul_of_pos_right b2 (Nat.two_pow_pos _)
      rw [← Nat.pow_add] at h2
      exact Nat.lt_of_lt_of_le h2 (Nat.pow_le_pow_right (by decide) hd)
    refine ⟨Nat.le_of_lt h1, ?_, fun _ => h1⟩
    by_cases hL : last = L
    · exact .inr hL
    · left
      have h2 : 2 ^ (b - 1) * 2 ^ (e - last).toNat ≤ m * 2 ^ (e - last).toNat := Nat.mul_le_mul_right _ b1
      rw [← Nat.pow_add, show b - 1 + (e - last).toNat = F by omega] at h2
      exact h2
  · rw [if_neg hc]
    generalize hcut : (last - e).toNat = c
    have hc1 : b ≤ F + 1 + c := by omega
    have hp : 0 < 2 ^ c := Nat.two_pow_pos c
    have h1 : m / 2 ^ c < 2 ^ (F + 1) := by
      rw [Nat.div_lt_iff_lt_mul hp, ← Nat.pow_add]
      exact Nat.lt_of_lt_of_le b2 (Nat.pow_le_pow_right (by decide) hc1)
    refine ⟨by have := rhe_le m c; omega, ?_, fun h => absurd h hc⟩
    by_cases hL : last = L
    · exact .inr hL
    · left
      refine Nat.le_trans ?_ (rhe_ge m c)
      rw [Nat.le_div_iff_mul_le hp, ← Nat.pow_add, show F + c = b - 1 by omega]
      exact b1
end Go.Proofs.YtbnmchaldolpfaaDoor.Q
end
section
namespace Go.Proofs.YtbnmchaldolpfaaDoor.Q
open Go.Proofs.YtbnmchaldolpfaaDoor.A
set_option linter.unusedVariables false
/-- x by y, to the nearest, half to even; with a little more: half goes up. -/
def rq (x y : Nat) (more : Bool) : Nat := if y < 2 * (x % y) ∨ (2 * (x % y) = y ∧ (more = true ∨ x / y % 2 = 1)) then x / y + 1 else x / y
theorem cross_div {x y x' y' : Nat} (hy : 0 < y) (hy' : 0 < y') (h : x * y' = x' * y) : x / y = x' / y' ∧ (x % y) * y' = (x' % y') * y := by
  have e1 : x / y = x' / y' := by
    have h1 : x * y' / (y * y') = x / y := Nat.mul_div_mul_right x y hy'
    have h2 : x' * y / (y' * y) = x' / y' := Nat.mul_div_mul_right x' y' hy
    rw [← h1, ← h2, h, Nat.mul_comm y y']
  refine ⟨e1, ?_⟩
  have h1 := Nat.mul_mod_mul_right y' x y
  have h2 := Nat.mul_mod_mul_right y x' y'
  rw [← h1, ← h2, h, Nat.mul_comm y y']
theorem rq_cross {x y x' y' : Nat} (hy : 0 < y) (hy' : 0 < y') (h : x * y' = x' * y) (more : Bool) : rq x y more = rq x' y' more := by
  obtain ⟨h1, h2⟩ := cross_div hy hy' h
  have hlt : (y < 2 * (x % y)) ↔ (y' < 2 * (x' % y')) := by
    have a1 : y * y' < 2 * (x % y) * y' ↔ y < 2 * (x % y) := Nat.mul_lt_mul_right hy'
    have a2 : y' * y < 2 * (x' % y') * y ↔ y' < 2 * (x' % y') := Nat.mul_lt_mul_right hy
    rw [← a1, ← a2, Nat.mul_assoc, h2, Nat.mul_assoc, Nat.mul_comm y y']
  have heq : (2 * (x % y) = y) ↔ (2 * (x' % y') = y') := by
    have a1 : 2 * (x % y) * y' = y * y' ↔ 2 * (x % y) = y := Nat.mul_left_inj (by omega)
    have a2 : 2 * (x' % y') * y = y' * y ↔ 2 * (x' % y') = y' := Nat.mul_left_inj (by omega)
    rw [← a1, ← a2, Nat.mul_assoc, h2, Nat.mul_assoc, Nat.mul_comm y y']
  unfold rq
  rw [h1]
  simp only [hlt, heq]
theorem rq_le (x y : Nat) (more : Bool) : rq x y more ≤ x / y + 1 := by unfold rq; split <;> omega
theorem rq_small {x y : Nat} (more : Bool) (h : 2 * x < y) : rq x y more = 0 := by
  unfold rq
  have h1 : x % y = x := Nat.mod_eq_of_lt (by omega)
  have h2 : x / y = 0 := Nat.div_eq_of_lt (by omega)
  rw [h1, h2, if_neg (by omega)]
/-- Two to a whole number's upper part, and to its lower one. -/
def pu (e : Int) : Nat := 2 ^ e.toNat
def pd (e : Int) : Nat := 2 ^ (-e).toNat
theorem pu_pos (e : Int) : 0 < pu e := Nat.two_pow_pos _
theorem pd_pos (e : Int) : 0 < pd e := Nat.two_pow_pos _
/-- The exponent of a fraction's first bit. -/
def fb (n d : Nat) (e : Int) : Prop := d * pu e ≤ n * pd e ∧ n * pd e < 2 * (d * pu e)
/-- The last bit's exponent. -/
def lst (F : Nat) (L e exp : Int) : Int := max (e + exp - F) L
/-- The rounded mantissa. -/
def man (n d : Nat) (exp last : Int) (more : Bool) : Nat := rq (n * pu (exp - last)) (d * pd (exp - last)) more
end Go.Proofs.YtbnmchaldolpfaaDoor.Q
end
section
namespace Go.Proofs.YtbnmchaldolpfaaDoor.Q
open Go.Proofs.YtbnmchaldolpfaaDoor.A
set_option linter.unusedVariables false
/-- x by y, to the nearest; half goes down. -/
def rdn (x y : Nat) : Nat := if y < 2 * (x % y) then x / y + 1 else x / y
/-- A little less (-1), just so (0), a little more (1). -/
def rqt (x y : Nat) (t : Int) : Nat := if t > 0 then rq x y true else if t < 0 then rdn x y else rq x y false
theorem rdn_cross {x y x' y' : Nat} (hy : 0 < y) (hy' : 0 < y') (h : x * y' = x' * y) : rdn x y = rdn x' y' := by
  obtain ⟨h1, h2⟩ := cross_div hy hy' h
  have hlt : (y < 2 * (x % y)) ↔ (y' < 2 * (x' % y')) := by
    have a1 : y * y' < 2 * (x % y) * y' ↔ y < 2 * (x % y) := Nat.mul_lt_mul_right hy'
    have a2 : y' * y < 2 * (x' % y') * y ↔ y' < 2 * (x' % y') := Nat.mul_lt_mul_right hy
    rw [← a1, ← a2, Nat.mul_assoc, h2, Nat.mul_assoc, Nat.mul_comm y y']
  unfold rdn
  rw [h1]
  simp only [hlt]
theorem rqt_cross {x y x' y' : Nat} (hy : 0 < y) (hy' : 0 < y') (h : x * y' = x' * y) (t : Int) : rqt x y t = rqt x' y' t := by
  unfold rqt
  rw [rq_cross hy hy' h, rq_cross hy hy' h, rdn_cross hy hy' h]
theorem rqt_le (x y : Nat) (t : Int) : rqt x y t ≤ x / y + 1 := by
  have h1 := rq_le x y true
  have h2 := rq_le x y false
  unfold rqt rdn
  split
  · exact h1
  · split
    · split <;> omega
    · exact h2
theorem rqt_ge (x y : Nat) (t : Int) : x / y ≤ rqt x y t := by
  unfold rqt rdn rq
  split
  · split <;> omega
  · split
    · split <;> omega
    · split <;> omega
theorem rqt_exact (q y : Nat) (hy : 0 < y) (t : Int) : rqt (q * y) y t = q := by
  have h1 : q * y / y = q := Nat.mul_div_cancel _ hy
  have h2 : q * y % y = 0 := Nat.mul_mod_left q y
  unfold rqt rdn rq
  rw [h1, h2]
  split
  · rw [if_neg (by omega)]
  · split
    · rw [if_neg (by omega)]
    · rw [if_neg (by omega)]
theorem rqt_one (x y : Nat) : rqt x y 1 = rq x y true := by unfold rqt; rw [if_pos (by decide)]
theorem rqt_neg (x y : Nat) : rqt x y (-1) = rdn x y := by unfold rqt; rw [if_neg (by decide), if_pos (by decide)]
theorem rqt_zero (x y : Nat) : rqt x y 0 = rq x y false := by unfold rqt; rw [if_neg (by decide), if_neg (by decide)]
/-- Just above M, and just below the next: one. -/
theorem rqt_next (M c : Nat) : rqt M (2 ^ (c + 1)) 1 = rqt (M + 1) (2 ^ (c + 1)) (-1) := by
  have hp : 0 < 2 ^ c := Nat.two_pow_pos c
  have hs : 2 ^ (c + 1) = 2 * 2 ^ c := by rw [Nat.pow_succ, Nat.mul_comm]
  have hd := Nat.div_add_mod M (2 ^ (c + 1))
  have hlt := Nat.mod_lt M (show 2 ^ (c + 1) > 0 by omega)
  rw [rqt_one, rqt_neg]
  unfold rdn rq
  rw [hs] at hd hlt ⊢
  generalize hq : M / (2 * 2 ^ c) = q at *
  generalize hr : M % (2 * 2 ^ c) = r at *
  by_cases h1 : r + 1 < 2 * 2 ^ c
  · have e : M + 1 = 2 * 2 ^ c * q + (r + 1) := by omega
    have e1 : (M + 1) / (2 * 2 ^ c) = q := by rw [e, Nat.mul_add_div (by omega), Nat.div_eq_of_lt h1, Nat.add_zero]
    have e2 : (M + 1) % (2 * 2 ^ c) = r + 1 := by rw [e, Nat.mul_add_mod, Nat.mod_eq_of_lt h1]
    rw [e1, e2]
    by_cases g : 2 ^ c ≤ r
    · rw [if_pos (by
        by_cases g2 : r = 2 ^ c
        · exact .inr ⟨by omega, .inl rfl⟩
        · left; omega), if_pos (by omega)]
    · rw [if_neg (by rintro (c1 | ⟨c1, _⟩) <;> omega), if_neg (by omega)]
  · have e : M + 1 = 2 * 2 ^ c * (q + 1) := by rw [Nat.mul_add, Nat.mul_one]; omega
    have e1 : (M + 1) / (2 * 2 ^ c) = q + 1 := by rw [e, Nat.mul_div_cancel_left _ (by omega)]
    have e2 : (M + 1) % (2 * 2 ^ c) = 0 := by rw [e, Nat.mul_mod_right]
    rw [e1, e2, if_neg (by omega : ¬ 2 * 2 ^ c < 2 * 0)]
    rw [if_pos (by
      by_cases g2 : r = 2 ^ c
      · exact .inr ⟨by omega, .inl rfl⟩
      · left; omega)]
/-- The mantissa of M times two to the exp in units of two to the last. -/
def mtt (M : Nat) (exp last : Int) (t : Int) : Nat := rqt (M * pu (exp - last)) (pd (exp - last)) t
theorem mt_up {M : Nat} {exp last : Int} (h : last ≤ exp) (t : Int) : mtt M exp last t = M * 2 ^ (exp - last).toNat := by
  unfold mtt
  have e1 : pd (exp - last) = 1 := by unfold pd; rw [show (-(exp - last)).toNat = 0 by omega]
  have := rqt_exact (M * pu (exp - last)) 1 (by decide) t
  rw [Nat.mul_one] at this
  rw [e1, this]; rfl
theorem mt_down {M : Nat} {exp last : Int} {c : Nat} (h : last - exp = c) (t : Int) : mtt M exp last t = rqt M (2 ^ c) t := by
  unfold mtt
  have e1 : pu (exp - last) = 1 := by unfold pu; rw [show (exp - last).toNat = 0 by omega]
  have e2 : pd (exp - last) = 2 ^ c := by unfold pd; rw [show (-(exp - last)).toNat = c by omega]
  rw [e1, e2, Nat.mul_one]
/-- The bits, if there were no greatest. -/
def hb (F : Nat) (L : Int) (M : Nat) (exp last t : Int) : Nat := (last - L).toNat * 2 ^ F + mtt M exp last t
theorem hb_same {F M la lb : Nat} {L exp last last' : Int} (h0 : 0 < M) (hl : last = max ((la : Int) - 1 + exp - F) L) (hl' : last' = max ((lb : Int) - 1 + exp - F) L)
    (hpow : lb = la ∨ (lb = la + 1 ∧ M + 1 = 2 ^ la)) (hc : 1 ≤ last - exp) : hb F L M exp last 1 = hb F L (M + 1) exp last' (-1) := by
  obtain ⟨c, hc'⟩ : ∃ c : Nat, last - exp = ((c + 1 : Nat) : Int) := ⟨(last - exp - 1).toNat, by omega⟩
  unfold hb
  by_cases hll : last' = last
  · rw [hll, mt_down hc', mt_down hc', rqt_next]
  · rcases hpow with hp | ⟨hp, hp2⟩
    · exfalso; apply hll; rw [hl, hl', hp]
    · have hla : last = (la : Int) - 1 + exp - F ∧ L ≤ last ∧ last' = last + 1 ∨ (last = L ∧ last' = L + 1 ∧ (la : Int) - 1 + exp - F = L) ∨ last' = L := by omega
      have hc2 : last' - exp = ((c + 2 : Nat) : Int) := by omega
      have hlc : (la : Int) = F + c + 2 := by omega
      have hlc' : la = F + 1 + (c + 1) := by omega
      have e2 : M + 1 = 2 ^ F * 2 ^ (c + 2) := by rw [hp2, hlc', ← Nat.pow_add]; congr 1; omega
      have e1 : M + 1 = 2 ^ (F + 1) * 2 ^ (c + 1) := by rw [hp2, hlc', ← Nat.pow_add]
      rw [mt_down hc', mt_down hc2, rqt_next]
      have x1 : rqt (M + 1) (2 ^ (c + 1)) (-1) = 2 ^ (F + 1) := by rw [e1]; exact rqt_exact _ _ (Nat.two_pow_pos _) _
      have x2 : rqt (M + 1) (2 ^ (c + 2)) (-1) = 2 ^ F := by rw [e2]; exact rqt_exact _ _ (Nat.two_pow_pos _) _
      rw [x1, x2, show (last' - L).toNat = (last - L).toNat + 1 by omega, Nat.add_mul, Nat.one_mul, Nat.pow_succ]
      omega
/-- Where M's unit is no less than the last bit: two. -/
theorem hb_apart {F M la lb : Nat} {L exp last last' : Int} (h0 : 0 < M) (hl : last = max ((la : Int) - 1 + exp - F) L) (hl' : last' = max ((lb : Int) - 1 + exp - F) L)
    (hpow : lb = la ∨ (lb = la + 1 ∧ M + 1 = 2 ^ la)) (hlt : M < 2 ^ la) (hc : last - exp < 1) : hb F L M exp last 1 < hb F L (M + 1) exp last' (-1) := by
  unfold hb
  rw [mt_up (by omega)]
  by_cases hll : last' = last
  · rw [hll, mt_up (by omega), Nat.add_mul, Nat.one_mul]
    have := Nat.two_pow_pos (exp - last).toNat
    omega
  · rcases hpow with hp | ⟨hp, hp2⟩
    · exfalso; apply hll; rw [hl, hl', hp]
    · obtain ⟨s, hs⟩ : ∃ s : Nat, exp - last = (s : Int) := ⟨(exp - last).toNat, by omega⟩
      have hF : la + s = F + 1 := by omega
      have e3 : M * 2 ^ s < 2 ^ (F + 1) := by
        have := Nat.mul_lt_mul_of_pos_right hlt (Nat.two_pow_pos s)
        rw [← Nat.pow_add, hF] at this
        exact this
      have e4 : mtt (M + 1) exp last' (-1) = 2 ^ F := by
        rcases Nat.eq_zero_or_pos s with g | g
        · subst g
          rw [mt_down (c := 1) (by omega)]
          have : M + 1 = 2 ^ F * 2 ^ 1 := by rw [hp2, ← Nat.pow_add]; congr 1
          rw [this]; exact rqt_exact _ _ (by decide) _
        · rw [mt_up (by omega), hp2, ← Nat.pow_add]; congr 1; omega
      rw [hs, Int.toNat_natCast, e4, show (last' - L).toNat = (last - L).toNat + 1 by omega, Nat.add_mul, Nat.one_mul]
      rw [Nat.pow_succ] at e3
      omega
end Go.Proofs.YtbnmchaldolpfaaDoor.Q
end
section
namespace Go.Proofs.YtbnmchaldolpfaaDoor.XoB
open Go.RowKit Go.Proofs.YtbnmchaldolpfaaDoor.Xo Go.Proofs.YtbnmchaldolpfaaDoor.A Go.Proofs.YtbnmchaldolpfaaDoorW.PrintWords Go.Proofs.YtbnmchaldolpfaaDoorW.PrintLast Go.Proofs.YtbnmchaldolpfaaDoorW.PrintMore
set_option linter.unusedSimpArgs false
set_option linter.unusedVariables false

/-- A size's numbers: the mantissa's bits, the exponent's, the sign's place, the least exponent, the infinity. -/
def IsFmt (size F E S : Nat) (L : Int) (I : Nat) : Prop :=
  (size = 32 ∧ F = 23 ∧ E = 8 ∧ S = 31 ∧ L = -149 ∧ I = 2139095040) ∨ (size = 64 ∧ F = 52 ∧ E = 11 ∧ S = 63 ∧ L = -1074 ∧ I = 9218868437227405312)
theorem fmt32 : IsFmt 32 23 8 31 (-149) 2139095040 := .inl ⟨rfl, rfl, rfl, rfl, rfl, rfl⟩
theorem fmt64 : IsFmt 64 52 11 63 (-1074) 9218868437227405312 := .inr ⟨rfl, rfl, rfl, rfl, rfl, rfl⟩

theorem bind_eq {α β : Type} {o : Option α} {a : α} {f : α → Option β} (h : o = some a) : o.bind f = f a := by rw [h]; rfl
theorem formatOf_ok {size F E S : Nat} {L : Int} {I : Nat} (h : IsFmt size F E S L I) : bits_formatOf.f size = some ((F : Int), (E : Int), none) := by
  rcases h with ⟨rfl, rfl, rfl, rfl, rfl, rfl⟩ | ⟨rfl, rfl, rfl, rfl, rfl, rfl⟩ <;> decide +kernel
theorem formatOf_bad {size : Int} (h1 : size ≠ 32) (h2 : size ≠ 64) : bits_formatOf.f size = some (0, 0, some 5) := by
  unfold bits_formatOf.f; rw [if_neg h1, if_neg h2]
theorem sign_ok {size F E S : Nat} {L : Int} {I : Nat} (h : IsFmt size F E S L I) : bits_format_sign.f F E = some ((2 ^ S : Nat) : Int) := by
  rcases h with ⟨rfl, rfl, rfl, rfl, rfl, rfl⟩ | ⟨rfl, rfl, rfl, rfl, rfl, rfl⟩ <;> decide +kernel
theorem inf_ok {size F E S : Nat} {L : Int} {I : Nat} (h : IsFmt size F E S L I) : bits_format_inf.f F E = some (I : Int) := by
  rcases h with ⟨rfl, rfl, rfl, rfl, rfl, rfl⟩ | ⟨rfl, rfl, rfl, rfl, rfl, rfl⟩ <;> decide +kernel
theorem least_ok {size F E S : Nat} {L : Int} {I : Nat} (h : IsFmt size F E S L I) : bits_format_least.f F E = some L := by
  rcases h with ⟨rfl, rfl, rfl, rfl, rfl, rfl⟩ | ⟨rfl, rfl, rfl, rfl, rfl, rfl⟩ <;> decide +kernel
def cls (I m : Nat) : Int := if m = 0 then 1 else if m < I then 2 else if m = I then 3 else 4
/-- The parts of a finite float's magnitude. -/
def mantOf (F m : Nat) : Nat := if m / 2 ^ F = 0 then m % 2 ^ F else m % 2 ^ F + 2 ^ F
def expOf (F : Nat) (L : Int) (m : Nat) : Int := if m / 2 ^ F = 0 then L else L + ((m / 2 ^ F : Nat) : Int) - 1
def unp (F S : Nat) (L : Int) (I a : Nat) : Bool × Int × Int × Int :=
  let m := a % 2 ^ S
  if cls I m = 4 then (false, 4, 0, 0) else if cls I m = 2 then (decide (2 ^ S ≤ a), 2, (mantOf F m : Int), expOf F L m) else (decide (2 ^ S ≤ a), cls I m, 0, 0)
end Go.Proofs.YtbnmchaldolpfaaDoor.XoB
end
section
namespace Go.Proofs.YtbnmchaldolpfaaDoor.XoB
open Go.RowKit Go.Proofs.YtbnmchaldolpfaaDoor.Xo Go.Proofs.YtbnmchaldolpfaaDoor.A Go.Proofs.YtbnmchaldolpfaaDoorW.PrintWords Go.Proofs.YtbnmchaldolpfaaDoorW.PrintLast Go.Proofs.YtbnmchaldolpfaaDoorW.PrintMore
set_option linter.unusedSimpArgs false
set_option linter.unusedVariables false

theorem rsize_ok {size F E S : Nat} {L : Int} {I : Nat} (h : IsFmt size F E S L I) : numeralref11_Size.f size = some true := by
  rcases h with ⟨rfl, rfl, rfl, rfl, rfl, rfl⟩ | ⟨rfl, rfl, rfl, rfl, rfl, rfl⟩ <;> decide +kernel
theorem rsize_bad {size : Int} (h1 : size ≠ 32) (h2 : size ≠ 64) : numeralref11_Size.f size = some false := by
  unfold numeralref11_Size.f; rw [if_neg h1, beq_eq_false_iff_ne.mpr h2]
theorem rsign_ok {size F E S : Nat} {L : Int} {I : Nat} (h : IsFmt size F E S L I) : numeralref11_sign.f size = some ((2 ^ S : Nat) : Int) := by
  rcases h with ⟨rfl, rfl, rfl, rfl, rfl, rfl⟩ | ⟨rfl, rfl, rfl, rfl, rfl, rfl⟩ <;> decide +kernel
theorem rinf_ok {size F E S : Nat} {L : Int} {I : Nat} (h : IsFmt size F E S L I) : numeralref11_inf.f size = some (I : Int) := by
  rcases h with ⟨rfl, rfl, rfl, rfl, rfl, rfl⟩ | ⟨rfl, rfl, rfl, rfl, rfl, rfl⟩ <;> decide +kernel
theorem rfrac_ok {size F E S : Nat} {L : Int} {I : Nat} (h : IsFmt size F E S L I) : numeralref11_Frac.f size = some (F : Int) := by
  rcases h with ⟨rfl, rfl, rfl, rfl, rfl, rfl⟩ | ⟨rfl, rfl, rfl, rfl, rfl, rfl⟩ <;> decide +kernel
theorem rlow_ok {size F E S : Nat} {L : Int} {I : Nat} (h : IsFmt size F E S L I) : numeralref11_Low.f size = some L := by
  rcases h with ⟨rfl, rfl, rfl, rfl, rfl, rfl⟩ | ⟨rfl, rfl, rfl, rfl, rfl, rfl⟩ <;> decide +kernel
/-- The canonical NaN. -/
def nanOf (F I : Nat) : Nat := I + 2 ^ (F - 1)
theorem fmt_small {size F E S : Nat} {L : Int} {I : Nat} (h : IsFmt size F E S L I) : 0 < F ∧ F < 63 ∧ S + 1 ≤ 64 ∧ F < S ∧ (L = -149 ∨ L = -1074) ∧ (size = 32 ∨ size = 64) ∧ 23 ≤ F := by
  rcases h with ⟨rfl, rfl, rfl, rfl, rfl, rfl⟩ | ⟨rfl, rfl, rfl, rfl, rfl, rfl⟩ <;> simp
/-! packing: NaN, noughts, infinities -/
theorem Pack_zero {size F E S : Nat} {L : Int} {I : Nat} (h : IsFmt size F E S L I) (k : Nat) (neg : Bool) (m e : Int) : bits_Pack.f k neg 1 m e size = some (((if neg then 2 ^ S else 0 : Nat) : Int), none) := by
  unfold bits_Pack.f
  rw [bind_eq (formatOf_ok h), if_pos (by rfl), if_pos (by rfl), bind_eq (sign_ok h)]
  cases neg
  · simp
  · rcases h with ⟨rfl, rfl, rfl, rfl, rfl, rfl⟩ | ⟨rfl, rfl, rfl, rfl, rfl, rfl⟩ <;> decide +kernel
theorem Pack_inf {size F E S : Nat} {L : Int} {I : Nat} (h : IsFmt size F E S L I) (k : Nat) (neg : Bool) (m e : Int) : bits_Pack.f k neg 3 m e size = some (((if neg then I + 2 ^ S else I : Nat) : Int), none) := by
  unfold bits_Pack.f
  rw [bind_eq (formatOf_ok h), if_pos (by rfl), if_neg (by decide), if_pos (by rfl), bind_eq (inf_ok h), bind_eq (sign_ok h)]
  cases neg
  · simp
  · rcases h with ⟨rfl, rfl, rfl, rfl, rfl, rfl⟩ | ⟨rfl, rfl, rfl, rfl, rfl, rfl⟩ <;> decide +kernel
theorem size_cases (a : Nat) (ha : a < 18446744073709551616) (s : Int) : (∃ (z F E S : Nat) (L : Int) (I : Nat), s = z ∧ IsFmt z F E S L I ∧ a < 2 ^ (S + 1)) ∨ (s = 32 ∧ 4294967296 ≤ a) ∨ (s ≠ 32 ∧ s ≠ 64) := by
  by_cases h1 : s = 32
  · by_cases h2 : a < 4294967296
    · exact .inl ⟨32, 23, 8, 31, -149, 2139095040, h1, fmt32, h2⟩
    · exact .inr (.inl ⟨h1, by omega⟩)
  · by_cases h2 : s = 64
    · exact .inl ⟨64, 52, 11, 63, -1074, 9218868437227405312, h2, fmt64, ha⟩
    · exact .inr (.inr ⟨h1, h2⟩)
theorem fmt_I {size F E S : Nat} {L : Int} {I : Nat} (h : IsFmt size F E S L I) : 0 < I ∧ I < 2 ^ S ∧ S ≤ 63 := by
  rcases h with ⟨rfl, rfl, rfl, rfl, rfl, rfl⟩ | ⟨rfl, rfl, rfl, rfl, rfl, rfl⟩ <;> simp
theorem Signed_ok {size F E S : Nat} {L : Int} {I : Nat} (h : IsFmt size F E S L I) (neg : Bool) {x : Nat} (hx : x < 2 ^ S) : numeralref11_Signed.f neg x size = some (((if neg then x + 2 ^ S else x : Nat) : Int)) := by
  obtain ⟨hI0, hI, hS⟩ := fmt_I h
  have h4 : 2 ^ S ≤ 2 ^ 63 := Nat.pow_le_pow_right (by decide) hS
  unfold numeralref11_Signed.f
  cases neg
  · rfl
  · rw [if_pos rfl, bind_eq (rsign_ok h), if_pos rfl]
    have := or_disj' 1 x S hx (by omega)
    rw [Nat.one_mul, Nat.add_comm] at this
    rw [this]
end Go.Proofs.YtbnmchaldolpfaaDoor.XoB
end
section
namespace Go.Proofs.YtbnmchaldolpfaaDoor.XoB
open Go.RowKit Go.Proofs.YtbnmchaldolpfaaDoor.Xo Go.Proofs.YtbnmchaldolpfaaDoor.A Go.Proofs.YtbnmchaldolpfaaDoorW.PrintWords Go.Proofs.YtbnmchaldolpfaaDoorW.PrintLast Go.Proofs.YtbnmchaldolpfaaDoorW.PrintMore
set_option linter.unusedSimpArgs false
set_option linter.unusedVariables false

/-- o times two to the u is the mantissa of o times two to the t. -/
def Rep (F : Nat) (L t : Int) (o u : Nat) : Prop := o * 2 ^ u < 2 ^ (F + 1) ∧ L ≤ t - u ∧ (2 ^ F ≤ o * 2 ^ u ∨ t - u = L)
theorem Rep_le {F : Nat} {L t : Int} {o u v : Nat} (hu : Rep F L t o u) (hv : Rep F L t o v) : v ≤ u := by
  rcases Nat.lt_or_ge u v with h | h
  · exfalso
    obtain ⟨u1, u2, u3⟩ := hu
    obtain ⟨v1, v2, v3⟩ := hv
    obtain ⟨d, rfl⟩ : ∃ d, v = u + 1 + d := ⟨v - u - 1, by omega⟩
    have e : o * 2 ^ (u + 1 + d) = o * 2 ^ u * 2 * 2 ^ d := by rw [Nat.pow_add, Nat.pow_succ]; simp only [Nat.mul_assoc]
    have hd : 0 < 2 ^ d := Nat.two_pow_pos d
    have h2 : o * 2 ^ u * 2 ≤ o * 2 ^ u * 2 * 2 ^ d := Nat.le_mul_of_pos_right _ hd
    have h3 : 2 ^ (F + 1) = 2 ^ F * 2 := Nat.pow_succ ..
    have h4 : o * 2 ^ u < 2 ^ F := by omega
    rcases u3 with h5 | h5
    · omega
    · omega
  · exact h
theorem Rep_unique {F : Nat} {L t : Int} {o u v : Nat} (hu : Rep F L t o u) (hv : Rep F L t o v) : u = v := Nat.le_antisymm (Rep_le hv hu) (Rep_le hu hv)
theorem Rep_pos {F : Nat} {L t : Int} {o u : Nat} (hu : Rep F L t o u) : o < 2 ^ (F + 1) ∧ L ≤ t := by
  obtain ⟨u1, u2, _⟩ := hu
  have : 0 < 2 ^ u := Nat.two_pow_pos u
  have : o ≤ o * 2 ^ u := Nat.le_mul_of_pos_right _ this
  omega
/-- The bits of a mantissa and an exponent, and the error's number. -/
def packv (F E : Nat) (L : Int) (M : Nat) (X : Int) : Int × Int :=
  if M < 2 ^ F then ((M : Int), 0) else if X - L + 1 ≥ 2 ^ E - 1 then (0, 4) else ((((X - L).toNat * 2 ^ F + M : Nat) : Int), 0)
theorem bitLen_rep {F : Nat} {L t : Int} {o : Nat} (h0 : 0 < o) (ho : o < 2 ^ (F + 1)) (ht : L ≤ t) (hF : F < 63) :
    Lib.bitLen o ≤ F + 1 ∧ Rep F L t o (min (F + 1 - Lib.bitLen o) (t - L).toNat) := by
  have h64 : 2 ^ (F + 1) ≤ 18446744073709551616 := pow_le64 (by omega)
  have hle : Lib.bitLen o ≤ F + 1 := Lib.bitLen_le o (F + 1) (by omega) ho
  obtain ⟨b0, b1, b2⟩ := blen_spec _ o rfl h0 (by omega)
  generalize hb : Lib.bitLen o = b at *
  refine ⟨hle, ?_⟩
  generalize hu : min (F + 1 - b) (t - L).toNat = u
  have hu1 : u ≤ F + 1 - b := by omega
  have hu2 : u ≤ (t - L).toNat := by omega
  refine ⟨?_, by omega, ?_⟩
  · have h1 : o * 2 ^ u < 2 ^ b * 2 ^ u := Nat.mul_lt_mul_of_pos_right b2 (Nat.two_pow_pos u)
    rw [← Nat.pow_add] at h1
    exact Nat.lt_of_lt_of_le h1 (Nat.pow_le_pow_right (by decide) (by omega))
  · by_cases hc : u = F + 1 - b
    · left
      have h1 : 2 ^ (b - 1) * 2 ^ u ≤ o * 2 ^ u := Nat.mul_le_mul_right _ b1
      rw [← Nat.pow_add, show b - 1 + u = F by omega] at h1
      exact h1
    · right; omega
theorem fmt_E {size F E S : Nat} {L : Int} {I : Nat} (h : IsFmt size F E S L I) : (2 : Int) ^ E - 1 = 255 ∧ E = 8 ∧ F = 23 ∧ L = -149 ∨ (2 : Int) ^ E - 1 = 2047 ∧ E = 11 ∧ F = 52 ∧ L = -1074 := by
  rcases h with ⟨rfl, rfl, rfl, rfl, rfl, rfl⟩ | ⟨rfl, rfl, rfl, rfl, rfl, rfl⟩ <;> simp
theorem shl_i64_E {E : Nat} (hE : E = 8 ∨ E = 11) : wrap64 (shl .i64 1 (E : Int) - 1) = 2 ^ E - 1 := by
  rcases hE with rfl | rfl <;> decide +kernel
theorem mn_int (a b : Int) : mn a b = min a b := by unfold mn; split <;> omega
/-- The program's fine, where o times two to the t has a normal form. -/
theorem fine_ok {size F E S : Nat} {L : Int} {I : Nat} (h : IsFmt size F E S L I) {o n u : Nat} {e : Int} (hm : (2 * o + 1) * 2 ^ n < 18446744073709551616) (hn : Lib.ctz 64 ((2 * o + 1) * 2 ^ n) = n) (hn64 : n < 64)
    (he0 : -5000 ≤ e) (he1 : e ≤ 5000) (hr : Rep F L (e + n) (2 * o + 1) u) (k : Nat) :
    bits_format_fine.f (k + 2) F E (((2 * o + 1) * 2 ^ n : Nat) : Int) e = some ((packv F E L ((2 * o + 1) * 2 ^ u) (e + n - u)).1, if (packv F E L ((2 * o + 1) * 2 ^ u) (e + n - u)).2 = 0 then none else some (packv F E L ((2 * o + 1) * 2 ^ u) (e + n - u)).2) := by
  obtain ⟨hF0, hF, hS, hFS, hL, _, hF23⟩ := fmt_small h
  obtain ⟨ho, ht⟩ := Rep_pos hr
  have h64 : 2 ^ (F + 1) ≤ 18446744073709551616 := pow_le64 (by omega)
  obtain ⟨hb, hr2⟩ := bitLen_rep (L := L) (t := e + n) (by omega : 0 < 2 * o + 1) ho ht hF
  have hu := Rep_unique hr hr2
  have hbE := fmt_E h
  have htz : bits_TrailingZeros64.f (((2 * o + 1) * 2 ^ n : Nat) : Int) = some (n : Int) := by
    unfold bits_TrailingZeros64.f u64ok
    rw [if_pos (u64ok_of hm), Int.toNat_natCast, hn]
  have hlen : bits_Len64.f ((2 * o + 1 : Nat) : Int) = some ((Lib.bitLen (2 * o + 1) : Nat) : Int) := by
    unfold bits_Len64.f u64ok
    rw [if_pos (u64ok_of (by omega)), Int.toNat_natCast]
  have hdiv : (2 * o + 1) * 2 ^ n / 2 ^ n = 2 * o + 1 := Nat.mul_div_cancel _ (Nat.two_pow_pos n)
  unfold bits_format_fine.f
  rw [bind_eq htz, if_pos (by omega), if_neg (by omega), shr_u _ n (by omega), hdiv, decide_eq_false (by omega)]
  generalize 2 * o + 1 = O at *
  rw [bits_format_fine.j0, if_neg (by decide), bind_eq hlen, wrapi_id (n := (F : Int) + 1) (by omega) (by omega), if_neg (by omega), bind_eq (least_ok h), wrapi_id (n := e + (n : Int)) (by omega) (by omega), decide_eq_false (by omega)]
  rw [bits_format_fine.j1, if_neg (by decide), bind_eq (least_ok h), wrapi_id (n := (F : Int) + 1) (by omega) (by omega), wrapi_id (n := (F : Int) + 1 - (Lib.bitLen O : Int)) (by omega) (by omega), wrapi_id (n := e + (n : Int) - L) (by omega) (by omega), mn_int]
  have hmin : min ((F : Int) + 1 - (Lib.bitLen O : Int)) (e + (n : Int) - L) = (u : Int) := by omega
  obtain ⟨r1, r2, r3⟩ := hr
  have hu64 : u ≤ 64 := by omega
  have hI : IntKind.u64.bits = 64 := rfl
  rw [hmin, if_pos (by omega), if_pos (by omega), shl_fit O u hu64 (by omega)]
  generalize hM : O * 2 ^ u = M at *
  rw [shr_u M F (by omega)]
  unfold packv
  by_cases hc : M < 2 ^ F
  · rw [if_pos (by rw [Nat.div_eq_of_lt hc]; rfl), if_pos hc]
    rfl
  · have hd : M / 2 ^ F = 1 := by
      have : 2 ^ (F + 1) = 2 ^ F * 2 := Nat.pow_succ ..
      apply Nat.div_eq_of_lt_le <;> omega
    have hmod : M % 2 ^ F = M - 2 ^ F := by
      have := Nat.div_add_mod M (2 ^ F)
      rw [hd] at this; omega
    have hE : E = 8 ∨ E = 11 := by rcases hbE with ⟨_, hE, _⟩ | ⟨_, hE, _⟩ <;> simp [hE]
    rw [if_neg (by omega), bind_eq (least_ok h), if_pos (by omega), if_neg hc, wrapi_id (n := e + (n : Int) - u) (by omega) (by omega), wrapi_id (n := e + (n : Int) - u - L) (by omega) (by omega), wrapi_id (n := e + (n : Int) - u - L + 1) (by omega) (by omega), shl_i64_E hE]
    by_cases hf : e + (n : Int) - u - L + 1 ≥ 2 ^ E - 1
    · rw [if_pos hf, if_pos hf]; rfl
    · rw [if_neg hf, if_neg hf]
      obtain ⟨q, hq⟩ : ∃ q : Nat, e + (n : Int) - u - L = q := ⟨(e + (n : Int) - u - L).toNat, by omega⟩
      have hq2 : q + 1 < 2047 := by rcases hbE with ⟨h1, _⟩ | ⟨h1, _⟩ <;> omega
      have hFq : (q + 1) * 2 ^ F + (M - 2 ^ F) < 18446744073709551616 := by
        rcases hbE with ⟨h1, _, hF', _⟩ | ⟨h1, _, hF', _⟩ <;> subst hF' <;> omega
      rw [hq, wrapu_id (n := (q : Int) + 1) (by omega) (by omega), mask_u F (by omega), and_mask M F (by omega) (by omega), hmod]
      have hs := shl_fit (q + 1) F (by omega) (by omega)
      rw [show ((q + 1 : Nat) : Int) = (q : Int) + 1 by omega] at hs
      rw [hs, or_disj (q + 1) (M - 2 ^ F) F (by have : 2 ^ (F + 1) = 2 ^ F * 2 := Nat.pow_succ ..; omega) hFq]
      have e9 : (q + 1) * 2 ^ F + (M - 2 ^ F) = q * 2 ^ F + M := by
        have : (q + 1) * 2 ^ F = q * 2 ^ F + 2 ^ F := by rw [Nat.add_mul, Nat.one_mul]
        omega
      rw [Int.toNat_natCast, e9]
      rfl
theorem fine_none {size F E S : Nat} {L : Int} {I : Nat} (h : IsFmt size F E S L I) {o n : Nat} {e : Int} (hm : (2 * o + 1) * 2 ^ n < 18446744073709551616) (hn : Lib.ctz 64 ((2 * o + 1) * 2 ^ n) = n) (hn64 : n < 64)
    (he0 : -5000 ≤ e) (he1 : e ≤ 5000) (hr : 2 ^ (F + 1) ≤ 2 * o + 1 ∨ e + n < L) (k : Nat) :
    bits_format_fine.f (k + 2) F E (((2 * o + 1) * 2 ^ n : Nat) : Int) e = some (0, some 4) := by
  obtain ⟨hF0, hF, hS, hFS, hL, _, hF23⟩ := fmt_small h
  have hO : 2 * o + 1 ≤ (2 * o + 1) * 2 ^ n := Nat.le_mul_of_pos_right _ (Nat.two_pow_pos n)
  have htz : bits_TrailingZeros64.f (((2 * o + 1) * 2 ^ n : Nat) : Int) = some (n : Int) := by
    unfold bits_TrailingZeros64.f u64ok
    rw [if_pos (u64ok_of hm), Int.toNat_natCast, hn]
  have hlen : bits_Len64.f ((2 * o + 1 : Nat) : Int) = some ((Lib.bitLen (2 * o + 1) : Nat) : Int) := by
    unfold bits_Len64.f u64ok
    rw [if_pos (u64ok_of (by omega)), Int.toNat_natCast]
  obtain ⟨b0, b1, b2⟩ := blen_spec _ (2 * o + 1) rfl (by omega) (by omega)
  have hdiv : (2 * o + 1) * 2 ^ n / 2 ^ n = 2 * o + 1 := Nat.mul_div_cancel _ (Nat.two_pow_pos n)
  unfold bits_format_fine.f
  rw [bind_eq htz, if_pos (by omega), if_neg (by omega), shr_u _ n (by omega), hdiv, decide_eq_false (by omega)]
  generalize 2 * o + 1 = O at *
  rw [bits_format_fine.j0, if_neg (by decide), bind_eq hlen, wrapi_id (n := (F : Int) + 1) (by omega) (by omega)]
  by_cases hc : ((Lib.bitLen O : Nat) : Int) > (F : Int) + 1
  · rw [if_pos hc, bits_format_fine.j1, if_pos rfl]
  · rw [if_neg hc, bind_eq (least_ok h), wrapi_id (n := e + (n : Int)) (by omega) (by omega)]
    have hlt : O < 2 ^ (F + 1) := Nat.lt_of_lt_of_le b2 (Nat.pow_le_pow_right (by decide) (by omega))
    rw [decide_eq_true (by omega), bits_format_fine.j1, if_pos rfl]
theorem fine_far {F E : Int} {m : Nat} {e : Int} (hm0 : m < 18446744073709551616) (he : e < -5000 ∨ 5000 < e) (k : Nat) : bits_format_fine.f (k + 1) F E (m : Int) e = some (0, some 4) := by
  unfold bits_format_fine.f
  have htz : bits_TrailingZeros64.f (m : Int) = some ((Lib.ctz 64 m : Nat) : Int) := by
    unfold bits_TrailingZeros64.f u64ok
    rw [if_pos (u64ok_of hm0), Int.toNat_natCast]
  rw [bind_eq htz, if_pos (by omega)]
  by_cases hc : e > 5000
  · rw [if_pos hc, bits_format_fine.j0, if_pos rfl]
  · rw [if_neg hc, decide_eq_true (by omega), bits_format_fine.j0, if_pos rfl]
end Go.Proofs.YtbnmchaldolpfaaDoor.XoB
end
section
namespace Go.Proofs.YtbnmchaldolpfaaDoor.XoB
open Go.RowKit Go.Proofs.YtbnmchaldolpfaaDoor.Xo Go.Proofs.YtbnmchaldolpfaaDoor.A Go.Proofs.YtbnmchaldolpfaaDoorW.PrintWords Go.Proofs.YtbnmchaldolpfaaDoorW.PrintLast Go.Proofs.YtbnmchaldolpfaaDoorW.PrintMore
set_option linter.unusedSimpArgs false
set_option linter.unusedVariables false

theorem and_one {a : Nat} (ha : a < 18446744073709551616) : Go.bits .and .u64 (a : Int) 1 = ((a % 2 : Nat) : Int) := and_mask a 1 ha (by omega)
theorem rl0 {size F E S : Nat} {L : Int} {I : Nat} (h : IsFmt size F E S L I) (O : Nat) (hO : O % 2 = 1) (t : Int) (ht1 : t ≤ 10000) (b : Bool) (c1 c2 c3 : Int) (k : Nat) : ∀ v : Nat, O * 2 ^ v < 18446744073709551616 → -10000 ≤ t - v →
    ∃ w, w ≤ v ∧ numeralref11_Pack.l0 (k + v + 1) size ((O * 2 ^ v : Nat) : Int) (t - v) F b c1 c2 c3 = numeralref11_Pack.j3 (k + w) size ((O * 2 ^ w : Nat) : Int) (t - w) F b c1 c2 c3 ∧ (w = 0 ∨ O * 2 ^ w < 2 ^ (F + 1) ∧ L ≤ t - w)
  | 0, hm, hv => by
    refine ⟨0, Nat.le_refl _, ?_, .inl rfl⟩
    rw [numeralref11_Pack.l0, and_one hm, if_neg (by rw [Nat.pow_zero, Nat.mul_one, hO]; decide)]
    rfl
  | v + 1, hm, hv => by
    obtain ⟨hF0, hF, hS, hFS, hL, _, hF23⟩ := fmt_small h
    have e1 : O * 2 ^ (v + 1) = O * 2 ^ v * 2 := by rw [Nat.pow_succ, Nat.mul_assoc]
    have e2 : O * 2 ^ (v + 1) % 2 = 0 := by rw [e1]; omega
    have e3 : O * 2 ^ (v + 1) / 2 = O * 2 ^ v := by rw [e1]; omega
    obtain ⟨w, hw, hl, hc⟩ := rl0 h O hO t ht1 b c1 c2 c3 k v (by omega) (by omega)
    have hstep : numeralref11_Pack.l0 (k + (v + 1)) size (((O * 2 ^ (v + 1) : Nat) : Int) / 2) (wrap64 (t - ((v + 1 : Nat) : Int) + 1)) F b c1 c2 c3 = numeralref11_Pack.j3 (k + w) size ((O * 2 ^ w : Nat) : Int) (t - w) F b c1 c2 c3 := by
      rw [wrapi_id (n := t - ((v + 1 : Nat) : Int) + 1) (by omega) (by omega), show t - ((v + 1 : Nat) : Int) + 1 = t - (v : Int) by omega, show ((O * 2 ^ (v + 1) : Nat) : Int) / 2 = ((O * 2 ^ v : Nat) : Int) by omega]
      exact hl
    rw [numeralref11_Pack.l0, and_one hm, e2, if_pos (by rfl), wrapu_id (n := (F : Int) + 1) (by omega) (by omega), if_pos (by omega)]
    have hs := shr_u (O * 2 ^ (v + 1)) (F + 1) (by omega)
    rw [show ((F + 1 : Nat) : Int) = (F : Int) + 1 by omega] at hs
    rw [hs]
    by_cases hz : O * 2 ^ (v + 1) / 2 ^ (F + 1) = 0
    · rw [if_pos (by omega), bind_eq (rlow_ok h)]
      by_cases hlt : t - ((v + 1 : Nat) : Int) < L
      · rw [if_pos hlt, hstep]
        exact ⟨w, by omega, rfl, hc⟩
      · rw [if_neg hlt]
        refine ⟨v + 1, Nat.le_refl _, rfl, .inr ⟨?_, by omega⟩⟩
        rcases Nat.div_eq_zero_iff.1 hz with h0 | h0
        · have := Nat.two_pow_pos (F + 1); omega
        · exact h0
    · rw [if_neg (by omega), hstep]
      exact ⟨w, by omega, rfl, hc⟩
theorem rl1 {size F E S : Nat} {L : Int} {I : Nat} (h : IsFmt size F E S L I) (O : Nat) (t : Int) (b : Bool) (c1 c2 c3 : Int) (k : Nat) : ∀ (d u : Nat), O * 2 ^ u < 18446744073709551616 → -10000 ≤ t - u - d → t - u ≤ 10000 → 2 ^ F ≤ O * 2 ^ u * 2 ^ d →
    ∃ w k', u ≤ w ∧ k ≤ k' ∧ numeralref11_Pack.l1 (k + d + 1) size ((O * 2 ^ u : Nat) : Int) (t - u) F b c1 c2 c3 = numeralref11_Pack.j5 k' size ((O * 2 ^ w : Nat) : Int) (t - w) F b c1 c2 c3 ∧ (2 ^ F ≤ O * 2 ^ w ∨ t - w ≤ L) ∧ (w = u ∨ O * 2 ^ w < 2 ^ (F + 1) ∧ L ≤ t - w) := by
  obtain ⟨hF0, hF, hS, hFS, hL, _, hF23⟩ := fmt_small h
  intro d
  induction d with
  | zero =>
    intro u hm h1 h2 hd
    refine ⟨u, k, Nat.le_refl _, Nat.le_refl _, ?_, .inl (by simpa using hd), .inl rfl⟩
    rw [numeralref11_Pack.l1, if_pos (by omega), shr_u _ F (by omega)]
    have : 1 ≤ O * 2 ^ u / 2 ^ F := (Nat.one_le_div_iff (Nat.two_pow_pos F)).2 (by simpa using hd)
    rw [if_neg (by omega)]
  | succ d ih =>
    intro u hm h1 h2 hd
    rw [numeralref11_Pack.l1, if_pos (by omega), shr_u _ F (by omega)]
    by_cases hz : O * 2 ^ u < 2 ^ F
    · rw [if_pos (by rw [Nat.div_eq_of_lt hz]; rfl), bind_eq (rlow_ok h)]
      by_cases hlt : t - (u : Int) > L
      · have e1 : O * 2 ^ (u + 1) = O * 2 ^ u * 2 := by rw [Nat.pow_succ, Nat.mul_assoc]
        have e2 : 2 ^ (F + 1) = 2 ^ F * 2 := Nat.pow_succ ..
        have h64 : 2 ^ (F + 1) ≤ 18446744073709551616 := pow_le64 (by omega)
        obtain ⟨w, k', hw, hk, hl, hc, hq⟩ := ih (u + 1) (by omega) (by omega) (by omega) (by rw [e1, Nat.mul_assoc, ← Nat.pow_succ']; exact hd)
        rw [if_pos hlt, wrapu_id (n := ((O * 2 ^ u : Nat) : Int) * 2) (by omega) (by omega), wrapi_id (n := t - (u : Int) - 1) (by omega) (by omega), show ((O * 2 ^ u : Nat) : Int) * 2 = ((O * 2 ^ (u + 1) : Nat) : Int) by omega, show t - (u : Int) - 1 = t - ((u + 1 : Nat) : Int) by omega, show k + (d + 1) = k + d + 1 by omega, hl]
        refine ⟨w, k', by omega, hk, rfl, hc, .inr ?_⟩
        rcases hq with rfl | hq
        · exact ⟨by omega, by omega⟩
        · exact hq
      · rw [if_neg hlt]
        exact ⟨u, k + (d + 1), Nat.le_refl _, by omega, rfl, .inr (by omega), .inl rfl⟩
    · have : 1 ≤ O * 2 ^ u / 2 ^ F := (Nat.one_le_div_iff (Nat.two_pow_pos F)).2 (by omega)
      rw [if_neg (by omega)]
      exact ⟨u, k + (d + 1), Nat.le_refl _, by omega, rfl, .inl (by omega), .inl rfl⟩
theorem rtop_ok {size F E S : Nat} {L : Int} {I : Nat} (h : IsFmt size F E S L I) : numeralref11_Top.f size = some (2 ^ E - 1) := by
  rcases h with ⟨rfl, rfl, rfl, rfl, rfl, rfl⟩ | ⟨rfl, rfl, rfl, rfl, rfl, rfl⟩ <;> decide +kernel
/-- The signed bits, or none beside an error. -/
def signv (S : Nat) (neg : Bool) (r : Int × Int) : Int × Int := if r.2 = 0 then (if neg then (r.1 + 2 ^ S, 0) else (r.1, 0)) else (0, r.2)
theorem packv_lt {size F E S : Nat} {L : Int} {I : Nat} (h : IsFmt size F E S L I) {M : Nat} {X : Int} (hM : M < 2 ^ (F + 1)) (hX : L ≤ X) (hf : ¬ X - L + 1 ≥ 2 ^ E - 1) : (X - L).toNat * 2 ^ F + M < 2 ^ S := by
  rcases fmt_E h with ⟨h1, h2, h3, h4⟩ | ⟨h1, h2, h3, h4⟩ <;> rcases h with ⟨_, _, _, hS, _⟩ | ⟨_, hF', _, hS, _⟩ <;> subst h3 <;> subst hS <;> omega
theorem rj5_ok {size F E S : Nat} {L : Int} {I : Nat} (h : IsFmt size F E S L I) {M : Nat} {X : Int} (hM : M < 2 ^ (F + 1)) (hX : L ≤ X) (hX2 : X ≤ 10000) (hn : 2 ^ F ≤ M ∨ X = L) (b : Bool) (c1 c2 c3 : Int) (k : Nat) :
    numeralref11_Pack.j5 (k + 2) size (M : Int) X F b c1 c2 c3 = some (signv S b (packv F E L M X)) := by
  obtain ⟨hF0, hF, hS, hFS, hL, _, hF23⟩ := fmt_small h
  have h64 : 2 ^ (F + 1) ≤ 18446744073709551616 := pow_le64 (by omega)
  have hbE := fmt_E h
  have hs := shr_u M (F + 1) (by omega)
  rw [show ((F + 1 : Nat) : Int) = (F : Int) + 1 by omega] at hs
  rw [numeralref11_Pack.j5, bind_eq (rlow_ok h), wrapu_id (n := (F : Int) + 1) (by omega) (by omega), if_pos (by omega), hs, Nat.div_eq_of_lt hM, if_pos (by rfl), bind_eq (rlow_ok h), if_neg (by omega), if_pos (by omega), shr_u M F (by omega), wrapi_id (n := X - L) (by omega) (by omega), wrapi_id (n := X - L + 1) (by omega) (by omega)]
  unfold packv signv
  by_cases hc : M < 2 ^ F
  · have hMS : M < 2 ^ S := Nat.lt_of_lt_of_le hc (Nat.pow_le_pow_right (by decide) (by omega))
    rw [if_pos (by rw [Nat.div_eq_of_lt hc]; rfl), if_pos hc, numeralref11_Pack.j6, if_neg (by decide), if_pos (by omega), shr_u M F (by omega), Nat.div_eq_of_lt hc, if_pos (by rfl), bind_eq (Signed_ok h b hMS)]
    cases b <;> simp
  · have hd : M / 2 ^ F = 1 := by
      have : 2 ^ (F + 1) = 2 ^ F * 2 := Nat.pow_succ ..
      apply Nat.div_eq_of_lt_le <;> omega
    have hmod : M % 2 ^ F = M - 2 ^ F := by
      have := Nat.div_add_mod M (2 ^ F)
      rw [hd] at this; omega
    rw [hd, if_neg (by decide), if_neg hc, bind_eq (rtop_ok h), wrapi_id (n := (2 : Int) ^ E - 1) (by rcases hbE with ⟨h1, _⟩ | ⟨h1, _⟩ <;> omega) (by rcases hbE with ⟨h1, _⟩ | ⟨h1, _⟩ <;> omega)]
    by_cases hf : X - L + 1 ≥ 2 ^ E - 1
    · rw [decide_eq_true hf, if_pos hf, numeralref11_Pack.j6, if_pos rfl]; rfl
    · rw [decide_eq_false hf, if_neg hf, numeralref11_Pack.j6, if_neg (by decide), if_pos (by omega), shr_u M F (by omega), hd, if_neg (by decide)]
      have hlt := packv_lt h hM hX hf
      obtain ⟨q, hq⟩ : ∃ q : Nat, X - L = q := ⟨(X - L).toNat, by omega⟩
      rw [hq, Int.toNat_natCast] at hlt
      have hS63 : 2 ^ S ≤ 2 ^ 63 := Nat.pow_le_pow_right (by decide) (by omega)
      have e9 : (q + 1) * 2 ^ F + (M - 2 ^ F) = q * 2 ^ F + M := by
        have : (q + 1) * 2 ^ F = q * 2 ^ F + 2 ^ F := by rw [Nat.add_mul, Nat.one_mul]
        omega
      have e8 : (q + 1) * 2 ^ F < 18446744073709551616 := by omega
      rw [hq, Int.toNat_natCast, wrapu_id (n := (q : Int) + 1) (by omega) (by rcases hbE with ⟨h1, _⟩ | ⟨h1, _⟩ <;> omega), mask_u F (by omega), and_mask M F (by omega) (by omega), hmod]
      have hs2 := shl_fit (q + 1) F (by omega) e8
      rw [show ((q + 1 : Nat) : Int) = (q : Int) + 1 by omega] at hs2
      rw [hs2, or_disj (q + 1) (M - 2 ^ F) F (by have : 2 ^ (F + 1) = 2 ^ F * 2 := Nat.pow_succ ..; omega) (by omega), e9, bind_eq (Signed_ok h b hlt)]
      cases b <;> simp
end Go.Proofs.YtbnmchaldolpfaaDoor.XoB
end
section
namespace Go.Proofs.YtbnmchaldolpfaaDoor.XoB
open Go.RowKit Go.Proofs.YtbnmchaldolpfaaDoor.Xo Go.Proofs.YtbnmchaldolpfaaDoor.A Go.Proofs.YtbnmchaldolpfaaDoorW.PrintWords Go.Proofs.YtbnmchaldolpfaaDoorW.PrintLast Go.Proofs.YtbnmchaldolpfaaDoorW.PrintMore
set_option linter.unusedSimpArgs false
set_option linter.unusedVariables false

def errv (c : Int) : Option Int := if c = 0 then none else some c
theorem packv_err (F E : Nat) (L : Int) (M : Nat) (X : Int) : (packv F E L M X).2 = 0 ∨ packv F E L M X = (0, 4) := by
  unfold packv
  by_cases h1 : M < 2 ^ F
  · rw [if_pos h1]; exact .inl rfl
  · rw [if_neg h1]
    by_cases h2 : X - L + 1 ≥ 2 ^ E - 1
    · rw [if_pos h2]; exact .inr rfl
    · rw [if_neg h2]; exact .inl rfl
theorem packv_nat {size F E S : Nat} {L : Int} {I : Nat} (h : IsFmt size F E S L I) {M : Nat} {X : Int} (hM : M < 2 ^ (F + 1)) (hX : L ≤ X) (h0 : (packv F E L M X).2 = 0) : ∃ q : Nat, packv F E L M X = ((q : Int), 0) ∧ q < 2 ^ S := by
  obtain ⟨hF0, hF, hS, hFS, hL, _, hF23⟩ := fmt_small h
  unfold packv at h0 ⊢
  by_cases h1 : M < 2 ^ F
  · rw [if_pos h1]
    exact ⟨M, rfl, Nat.lt_of_lt_of_le h1 (Nat.pow_le_pow_right (by decide) (by omega))⟩
  · rw [if_neg h1] at h0 ⊢
    by_cases h2 : X - L + 1 ≥ 2 ^ E - 1
    · rw [if_pos h2] at h0; exact absurd h0 (by decide)
    · rw [if_neg h2]
      exact ⟨_, rfl, packv_lt h hM hX h2⟩
theorem Pack_rep {size F E S : Nat} {L : Int} {I : Nat} (h : IsFmt size F E S L I) {o n u : Nat} {e : Int} (hm : (2 * o + 1) * 2 ^ n < 18446744073709551616) (hn : Lib.ctz 64 ((2 * o + 1) * 2 ^ n) = n) (hn64 : n < 64)
    (he0 : -5000 ≤ e) (he1 : e ≤ 5000) (hr : Rep F L (e + n) (2 * o + 1) u) (neg : Bool) (k : Nat) :
    bits_Pack.f (k + 2) neg 2 (((2 * o + 1) * 2 ^ n : Nat) : Int) e size = some ((signv S neg (packv F E L ((2 * o + 1) * 2 ^ u) (e + n - u))).1, errv (signv S neg (packv F E L ((2 * o + 1) * 2 ^ u) (e + n - u))).2) := by
  obtain ⟨hF0, hF, hS, hFS, hL, _, hF23⟩ := fmt_small h
  have hpos : 0 < (2 * o + 1) * 2 ^ n := Nat.mul_pos (by omega) (Nat.two_pow_pos n)
  unfold bits_Pack.f
  rw [bind_eq (formatOf_ok h), if_pos (by rfl), if_neg (by decide), if_neg (by decide), if_neg (by decide), if_pos (by rfl), if_neg (by omega), bind_eq (fine_ok h hm hn hn64 he0 he1 hr k)]
  obtain ⟨r1, r2, r3⟩ := hr
  generalize hp : packv F E L ((2 * o + 1) * 2 ^ u) (e + n - u) = p
  rcases packv_err F E L ((2 * o + 1) * 2 ^ u) (e + n - u) with h0 | h0
  · obtain ⟨q, hq, hqS⟩ := packv_nat h r1 (by omega) h0
    rw [hp] at hq
    subst hq
    have hS63 : 2 ^ S ≤ 2 ^ 63 := Nat.pow_le_pow_right (by decide) (by omega)
    have hor := or_disj' 1 q S hqS (by omega)
    rw [Nat.one_mul] at hor
    rw [if_pos (by rfl), bind_eq (sign_ok h)]
    unfold signv errv
    cases neg
    · rfl
    · rw [if_pos rfl, if_pos rfl, if_pos rfl, hor]
      simp only [if_true]
      rw [show ((2 ^ S + q : Nat) : Int) = (q : Int) + 2 ^ S by rw [Int.natCast_add, Int.natCast_pow]; exact Int.add_comm _ _]
  · rw [hp] at h0
    subst h0
    rw [if_neg (by simp)]
    rfl
theorem Pack_none {size F E S : Nat} {L : Int} {I : Nat} (h : IsFmt size F E S L I) {o n : Nat} {e : Int} (hm : (2 * o + 1) * 2 ^ n < 18446744073709551616) (hn : Lib.ctz 64 ((2 * o + 1) * 2 ^ n) = n) (hn64 : n < 64)
    (he0 : -5000 ≤ e) (he1 : e ≤ 5000) (hr : 2 ^ (F + 1) ≤ 2 * o + 1 ∨ e + n < L) (neg : Bool) (k : Nat) :
    bits_Pack.f (k + 2) neg 2 (((2 * o + 1) * 2 ^ n : Nat) : Int) e size = some (0, some 4) := by
  have hpos : 0 < (2 * o + 1) * 2 ^ n := Nat.mul_pos (by omega) (Nat.two_pow_pos n)
  unfold bits_Pack.f
  rw [bind_eq (formatOf_ok h), if_pos (by rfl), if_neg (by decide), if_neg (by decide), if_neg (by decide), if_pos (by rfl), if_neg (by omega), bind_eq (fine_none h hm hn hn64 he0 he1 hr k), if_neg (by simp)]
  rfl
theorem Pack_far {size F E S : Nat} {L : Int} {I : Nat} (h : IsFmt size F E S L I) {m : Nat} {e : Int} (hm0 : 0 < m) (hm : m < 18446744073709551616) (he : e < -5000 ∨ 5000 < e) (neg : Bool) (k : Nat) :
    bits_Pack.f (k + 1) neg 2 (m : Int) e size = some (0, some 4) := by
  unfold bits_Pack.f
  rw [bind_eq (formatOf_ok h), if_pos (by rfl), if_neg (by decide), if_neg (by decide), if_neg (by decide), if_pos (by rfl), if_neg (by omega), bind_eq (fine_far hm he k), if_neg (by simp)]
  rfl
theorem rj5_none {size F E S : Nat} {L : Int} {I : Nat} (h : IsFmt size F E S L I) {M : Nat} {X : Int} (hM : 2 ^ (F + 1) ≤ M ∨ X < L) (b : Bool) (c1 c2 c3 : Int) (k : Nat) :
    numeralref11_Pack.j5 (k + 2) size (M : Int) X F b c1 c2 c3 = some (0, 4) := by
  obtain ⟨hF0, hF, hS, hFS, hL, _, hF23⟩ := fmt_small h
  have hs := shr_u M (F + 1) (by omega)
  rw [show ((F + 1 : Nat) : Int) = (F : Int) + 1 by omega] at hs
  rw [numeralref11_Pack.j5, bind_eq (rlow_ok h), wrapu_id (n := (F : Int) + 1) (by omega) (by omega), if_pos (by omega), hs]
  by_cases hc : M / 2 ^ (F + 1) = 0
  · rw [hc, if_pos (by rfl), bind_eq (rlow_ok h)]
    have hlt : M < 2 ^ (F + 1) := by
      rcases Nat.div_eq_zero_iff.1 hc with h0 | h0
      · have := Nat.two_pow_pos (F + 1); omega
      · exact h0
    rw [if_pos (by omega), numeralref11_Pack.j6, if_pos rfl]
  · rw [if_neg (by omega), numeralref11_Pack.j6, if_pos rfl]
/-- From the loops' begin: the end's arguments. -/
theorem rloops {size F E S : Nat} {L : Int} {I : Nat} (h : IsFmt size F E S L I) (O n : Nat) (hO : O % 2 = 1) (hm : O * 2 ^ n < 18446744073709551616) (hn : n < 64) (e : Int) (he0 : -4000 ≤ e) (he1 : e ≤ 4000) (b : Bool) (c1 c2 c3 : Int) (k : Nat) (hk : 190 ≤ k) :
    ∃ (w k' : Nat), numeralref11_Pack.l0 k size ((O * 2 ^ n : Nat) : Int) e F b c1 c2 c3 = numeralref11_Pack.j5 (k' + 2) size ((O * 2 ^ w : Nat) : Int) (e + n - w) F b c1 c2 c3 ∧ (2 ^ F ≤ O * 2 ^ w ∨ e + n - w ≤ L) ∧ (w = 0 ∨ O * 2 ^ w < 2 ^ (F + 1) ∧ L ≤ e + n - w) := by
  obtain ⟨hF0, hF, hS, hFS, hL, _, hF23⟩ := fmt_small h
  obtain ⟨k1, hk1⟩ : ∃ k1, k = k1 + n + 1 := ⟨k - n - 1, by omega⟩
  obtain ⟨v, hv, hl, hc⟩ := rl0 h O hO (e + n) (by omega) b c1 c2 c3 k1 n hm (by omega)
  obtain ⟨k2, hk2⟩ : ∃ k2, k1 + v = (k2 + F + 1) + 1 ∧ 2 ≤ k2 := ⟨k1 + v - F - 2, by omega, by omega⟩
  have hv64 : O * 2 ^ v < 18446744073709551616 := Nat.lt_of_le_of_lt (Nat.mul_le_mul_left _ (Nat.pow_le_pow_right (by decide) hv)) hm
  have hpos : 1 ≤ O * 2 ^ v := Nat.mul_pos (by omega) (Nat.two_pow_pos v)
  obtain ⟨w, k', hw, hk', hl2, hc2, hq2⟩ := rl1 h O (e + n) b c1 c2 c3 k2 F v hv64 (by omega) (by omega) (by have := Nat.mul_le_mul_right (2 ^ F) hpos; omega)
  refine ⟨w, k' - 2, ?_, hc2, ?_⟩
  · rw [show e + (n : Int) - (n : Int) = e by omega] at hl
    rw [hk1, hl, hk2.1, numeralref11_Pack.j3, hl2, show k' - 2 + 2 = k' by omega]
  · rcases hq2 with rfl | hq2
    · exact hc
    · exact .inr hq2
theorem rPack_enter {size F E S : Nat} {L : Int} {I : Nat} (h : IsFmt size F E S L I) {m : Nat} (hm0 : 0 < m) {e : Int} (he0 : -4000 ≤ e) (he1 : e ≤ 4000) (neg : Bool) (k : Nat) :
    numeralref11_Pack.f (k + 2) neg 2 (m : Int) e size = numeralref11_Pack.l0 k size (m : Int) e F neg 2 (m : Int) e := by
  obtain ⟨hF0, hF, hS, hFS, hL, _, hF23⟩ := fmt_small h
  unfold numeralref11_Pack.f
  rw [bind_eq (rsize_ok h), if_pos rfl, if_neg (by decide), if_neg (by decide), if_pos rfl, if_neg (by omega), numeralref11_Pack.j0, if_neg (by decide), if_neg (by decide), if_neg (by decide), bind_eq (rfrac_ok h), wrapu_id (n := (F : Int)) (by omega) (by omega), if_neg (by omega), decide_eq_false (by omega), numeralref11_Pack.j1, if_neg (by decide)]
theorem rPack_far {size F E S : Nat} {L : Int} {I : Nat} (h : IsFmt size F E S L I) {m : Nat} (hm0 : 0 < m) {e : Int} (he : e < -4000 ∨ 4000 < e) (neg : Bool) (k : Nat) :
    numeralref11_Pack.f (k + 2) neg 2 (m : Int) e size = some (0, 4) := by
  obtain ⟨hF0, hF, hS, hFS, hL, _, hF23⟩ := fmt_small h
  unfold numeralref11_Pack.f
  rw [bind_eq (rsize_ok h), if_pos rfl, if_neg (by decide), if_neg (by decide), if_pos rfl, if_neg (by omega), numeralref11_Pack.j0, if_neg (by decide), if_neg (by decide), if_neg (by decide), bind_eq (rfrac_ok h), wrapu_id (n := (F : Int)) (by omega) (by omega)]
  by_cases hc : e < -4000
  · rw [if_pos hc, numeralref11_Pack.j1, if_pos rfl]
  · rw [if_neg hc, decide_eq_true (by omega), numeralref11_Pack.j1, if_pos rfl]
theorem rPack_rep {size F E S : Nat} {L : Int} {I : Nat} (h : IsFmt size F E S L I) {o n u : Nat} {e : Int} (hm : (2 * o + 1) * 2 ^ n < 18446744073709551616) (hn64 : n < 64)
    (he0 : -4000 ≤ e) (he1 : e ≤ 4000) (hr : Rep F L (e + n) (2 * o + 1) u) (neg : Bool) (k : Nat) :
    numeralref11_Pack.f (k + 200) neg 2 (((2 * o + 1) * 2 ^ n : Nat) : Int) e size = some (signv S neg (packv F E L ((2 * o + 1) * 2 ^ u) (e + n - u))) := by
  obtain ⟨hF0, hF, hS, hFS, hL, _, hF23⟩ := fmt_small h
  have hpos : 0 < (2 * o + 1) * 2 ^ n := Nat.mul_pos (by omega) (Nat.two_pow_pos n)
  obtain ⟨ho, ht⟩ := Rep_pos hr
  obtain ⟨w, k', hl, hc, hq⟩ := rloops h (2 * o + 1) n (by omega) hm hn64 e he0 he1 neg 2 (((2 * o + 1) * 2 ^ n : Nat) : Int) e (k + 198) (by omega)
  have hq2 : (2 * o + 1) * 2 ^ w < 2 ^ (F + 1) ∧ L ≤ e + n - w := by
    rcases hq with rfl | hq
    · exact ⟨by rw [Nat.pow_zero, Nat.mul_one]; exact ho, by omega⟩
    · exact hq
  have hw : Rep F L (e + n) (2 * o + 1) w := ⟨hq2.1, hq2.2, by omega⟩
  obtain rfl := Rep_unique hr hw
  rw [rPack_enter h hpos he0 he1 neg (k + 198), hl, rj5_ok h hq2.1 hq2.2 (by omega) (by omega)]
theorem rPack_none {size F E S : Nat} {L : Int} {I : Nat} (h : IsFmt size F E S L I) {o n : Nat} {e : Int} (hm : (2 * o + 1) * 2 ^ n < 18446744073709551616) (hn64 : n < 64)
    (he0 : -4000 ≤ e) (he1 : e ≤ 4000) (hr : 2 ^ (F + 1) ≤ 2 * o + 1 ∨ e + n < L) (neg : Bool) (k : Nat) :
    numeralref11_Pack.f (k + 200) neg 2 (((2 * o + 1) * 2 ^ n : Nat) : Int) e size = some (0, 4) := by
  have hpos : 0 < (2 * o + 1) * 2 ^ n := Nat.mul_pos (by omega) (Nat.two_pow_pos n)
  obtain ⟨w, k', hl, hc, hq⟩ := rloops h (2 * o + 1) n (by omega) hm hn64 e he0 he1 neg 2 (((2 * o + 1) * 2 ^ n : Nat) : Int) e (k + 198) (by omega)
  have hw : w = 0 := by
    rcases hq with hq | hq
    · exact hq
    · have : 2 * o + 1 ≤ (2 * o + 1) * 2 ^ w := Nat.le_mul_of_pos_right _ (Nat.two_pow_pos w)
      omega
  subst hw
  rw [rPack_enter h hpos he0 he1 neg (k + 198), hl, rj5_none h (by rw [Nat.pow_zero, Nat.mul_one]; omega)]
theorem odd_part {m : Nat} (h0 : 0 < m) (h : m < 18446744073709551616) : ∃ o n, m = (2 * o + 1) * 2 ^ n ∧ Lib.ctz 64 ((2 * o + 1) * 2 ^ n) = n ∧ n < 64 := by
  obtain ⟨o, h1, h2⟩ := ctz_spec h0 h
  exact ⟨o, Lib.ctz 64 m, h1, by rw [← h1], h2⟩
theorem rep_or {F : Nat} {L t : Int} {o : Nat} (hF : F < 63) : (∃ u, Rep F L t (2 * o + 1) u) ∨ (2 ^ (F + 1) ≤ 2 * o + 1 ∨ t < L) := by
  by_cases h1 : 2 * o + 1 < 2 ^ (F + 1)
  · by_cases h2 : L ≤ t
    · exact .inl ⟨_, (bitLen_rep (by omega) h1 h2 hF).2⟩
    · exact .inr (.inr (by omega))
  · exact .inr (.inl (by omega))
/-- Both pack a fine float to the same. -/
theorem Pack_both {size F E S : Nat} {L : Int} {I : Nat} (h : IsFmt size F E S L I) {m : Nat} (hm0 : 0 < m) (hm : m < 18446744073709551616) (e : Int) (neg : Bool) (k : Nat) :
    ∃ r : Int × Int, bits_Pack.f (k + 200) neg 2 (m : Int) e size = some (r.1, errv r.2) ∧ numeralref11_Pack.f (k + 200) neg 2 (m : Int) e size = some r := by
  obtain ⟨hF0, hF, hS, hFS, hL, _, hF23⟩ := fmt_small h
  obtain ⟨o, n, rfl, hn, hn64⟩ := odd_part hm0 hm
  by_cases hfar : e < -5000 ∨ 5000 < e
  · exact ⟨(0, 4), Pack_far h hm0 hm hfar neg (k + 199), rPack_far h hm0 (by omega) neg (k + 198)⟩
  · rcases rep_or (F := F) (L := L) (t := e + n) (o := o) hF with ⟨u, hr⟩ | hr
    · by_cases hf2 : e < -4000 ∨ 4000 < e
      · refine ⟨(0, 4), ?_, rPack_far h hm0 hf2 neg (k + 198)⟩
        rw [Pack_rep h hm hn hn64 (by omega) (by omega) hr neg (k + 198)]
        obtain ⟨r1, r2, r3⟩ := hr
        have hu : u ≤ F + 1 := by
          rcases Nat.lt_or_ge (F + 1) u with hc | hc
          · have h1 : 2 ^ (F + 1) ≤ 2 ^ u := Nat.pow_le_pow_right (by decide) (by omega)
            have h2 : 2 ^ u ≤ (2 * o + 1) * 2 ^ u := Nat.le_mul_of_pos_left _ (by omega)
            omega
          · exact hc
        have hbig : 2000 < e + n - u - L := by omega
        have hMF : ¬ (2 * o + 1) * 2 ^ u < 2 ^ F := by omega
        have hE := fmt_E h
        have hpk : packv F E L ((2 * o + 1) * 2 ^ u) (e + n - u) = (0, 4) := by
          unfold packv
          rw [if_neg hMF, if_pos (by rcases hE with ⟨h1, _⟩ | ⟨h1, _⟩ <;> omega)]
        rw [hpk]; rfl
      · exact ⟨_, Pack_rep h hm hn hn64 (by omega) (by omega) hr neg (k + 198), rPack_rep h hm hn64 (by omega) (by omega) hr neg k⟩
    · refine ⟨(0, 4), Pack_none h hm hn hn64 (by omega) (by omega) hr neg (k + 198), ?_⟩
      by_cases hf2 : e < -4000 ∨ 4000 < e
      · exact rPack_far h hm0 hf2 neg (k + 198)
      · exact rPack_none h hm hn64 (by omega) (by omega) hr neg k
end Go.Proofs.YtbnmchaldolpfaaDoor.XoB
end
section
namespace Go.Proofs.YtbnmchaldolpfaaDoor.XoB
open Go.RowKit Go.Proofs.YtbnmchaldolpfaaDoor.Xo Go.Proofs.YtbnmchaldolpfaaDoor.A Go.Proofs.YtbnmchaldolpfaaDoorW.PrintWords Go.Proofs.YtbnmchaldolpfaaDoorW.PrintLast Go.Proofs.YtbnmchaldolpfaaDoorW.PrintMore
set_option linter.unusedSimpArgs false
set_option linter.unusedVariables false
end Go.Proofs.YtbnmchaldolpfaaDoor.XoB
end
section
namespace Go.Proofs.YtbnmchaldolpfaaDoor.XoB
open Go.RowKit Go.Proofs.YtbnmchaldolpfaaDoor.Xo Go.Proofs.YtbnmchaldolpfaaDoor.A Go.Proofs.YtbnmchaldolpfaaDoorW.PrintWords Go.Proofs.YtbnmchaldolpfaaDoorW.PrintLast Go.Proofs.YtbnmchaldolpfaaDoorW.PrintMore
set_option linter.unusedSimpArgs false
set_option linter.unusedVariables false
theorem odd_unique {o m : Nat} : ∀ {u c : Nat}, (2 * o + 1) * 2 ^ u = (2 * m + 1) * 2 ^ c → u = c
  | 0, 0, _ => rfl
  | 0, c + 1, h => by rw [Nat.pow_succ, ← Nat.mul_assoc, Nat.pow_zero] at h; omega
  | u + 1, 0, h => by rw [Nat.pow_succ, ← Nat.mul_assoc, Nat.pow_zero] at h; omega
  | u + 1, c + 1, h => by
    rw [Nat.pow_succ, Nat.pow_succ, ← Nat.mul_assoc, ← Nat.mul_assoc] at h
    have h2 : (2 * o + 1) * 2 ^ u = (2 * m + 1) * 2 ^ c := by omega
    rw [odd_unique h2]
theorem ctz_mul {o u : Nat} (hm : (2 * o + 1) * 2 ^ u < 18446744073709551616) : Lib.ctz 64 ((2 * o + 1) * 2 ^ u) = u := by
  have hp : 0 < (2 * o + 1) * 2 ^ u := Nat.mul_pos (by omega) (Nat.two_pow_pos u)
  obtain ⟨m, h1, _⟩ := ctz_spec hp hm
  exact (odd_unique h1).symm
end Go.Proofs.YtbnmchaldolpfaaDoor.XoB
end
section
namespace Go.Proofs.YtbnmchaldolpfaaDoor.XoB
open Go.RowKit Go.Proofs.YtbnmchaldolpfaaDoor.Xo Go.Proofs.YtbnmchaldolpfaaDoor.A Go.Proofs.YtbnmchaldolpfaaDoorW.PrintWords Go.Proofs.YtbnmchaldolpfaaDoorW.PrintLast Go.Proofs.YtbnmchaldolpfaaDoorW.PrintMore
set_option linter.unusedSimpArgs false
set_option linter.unusedVariables false
/-- The signed float of a magnitude. -/
def sgn (S : Nat) (neg : Bool) (m : Nat) : Nat := if neg then m + 2 ^ S else m
theorem signv_nat (S : Nat) (neg : Bool) (q : Nat) : signv S neg ((q : Int), 0) = (((sgn S neg q : Nat) : Int), 0) := by
  unfold signv sgn
  cases neg
  · rfl
  · rw [if_pos rfl, if_pos rfl, if_pos rfl, Int.natCast_add, Int.natCast_pow]; rfl
end Go.Proofs.YtbnmchaldolpfaaDoor.XoB
end
section
namespace Go.Proofs.YtbnmchaldolpfaaDoor.XoB
open Go.RowKit Go.Proofs.YtbnmchaldolpfaaDoor.Xo Go.Proofs.YtbnmchaldolpfaaDoor.A Go.Proofs.YtbnmchaldolpfaaDoor.Q Go.Proofs.YtbnmchaldolpfaaDoorW.PrintWords Go.Proofs.YtbnmchaldolpfaaDoorW.PrintLast Go.Proofs.YtbnmchaldolpfaaDoorW.PrintMore
set_option linter.unusedSimpArgs false
set_option linter.unusedVariables false
theorem packv_bits {size F E S : Nat} {L : Int} {I : Nat} (h : IsFmt size F E S L I) {M : Nat} {X : Int} (hM : M < 2 ^ (F + 1)) (hX : L ≤ X) (hn : 2 ^ F ≤ M ∨ X = L) :
    packv F E L M X = if I ≤ (X - L).toNat * 2 ^ F + M then (0, 4) else ((((X - L).toNat * 2 ^ F + M : Nat) : Int), 0) := by
  unfold packv
  by_cases hc : M < 2 ^ F
  · have hXL : X = L := by omega
    subst hXL
    rw [if_pos hc, show (X - X).toNat = 0 by omega, Nat.zero_mul, Nat.zero_add, if_neg]
    rcases h with ⟨rfl, rfl, rfl, rfl, rfl, rfl⟩ | ⟨rfl, rfl, rfl, rfl, rfl, rfl⟩ <;> omega
  · rw [if_neg hc]
    by_cases hf : X - L + 1 ≥ 2 ^ E - 1
    · rw [if_pos hf, if_pos]
      rcases h with ⟨rfl, rfl, rfl, rfl, rfl, rfl⟩ | ⟨rfl, rfl, rfl, rfl, rfl, rfl⟩ <;> omega
    · rw [if_neg hf, if_neg]
      rcases h with ⟨rfl, rfl, rfl, rfl, rfl, rfl⟩ | ⟨rfl, rfl, rfl, rfl, rfl, rfl⟩ <;> omega
/-- What Pack answers for the bits b, if there were no greatest. -/
def outb (S I : Nat) (neg : Bool) (b : Nat) : Int × Option Int := if I ≤ b then (0, some 4) else (((sgn S neg b : Nat) : Int), none)
theorem outb_of {size F E S : Nat} {L : Int} {I : Nat} (h : IsFmt size F E S L I) {M : Nat} {X : Int} (hM : M < 2 ^ (F + 1)) (hX : L ≤ X) (hn : 2 ^ F ≤ M ∨ X = L) (neg : Bool) :
    ((signv S neg (packv F E L M X)).1, errv (signv S neg (packv F E L M X)).2) = outb S I neg ((X - L).toNat * 2 ^ F + M) := by
  rw [packv_bits h hM hX hn]
  unfold outb
  by_cases hc : I ≤ (X - L).toNat * 2 ^ F + M
  · rw [if_pos hc, if_pos hc]; rfl
  · rw [if_neg hc, if_neg hc, signv_nat]; rfl
theorem Pack_val {size F E S : Nat} {L : Int} {I : Nat} (h : IsFmt size F E S L I) {m d : Nat} {e : Int} (h0 : 0 < m) (hm : m < 18446744073709551616) (he0 : -5000 ≤ e) (he1 : e ≤ 5000)
    (hM : m * 2 ^ d < 2 ^ (F + 1)) (hX : L ≤ e - d) (hn : 2 ^ F ≤ m * 2 ^ d ∨ e - d = L) (neg : Bool) (k : Nat) :
    bits_Pack.f (k + 2) neg 2 (m : Int) e size = some (outb S I neg ((e - d - L).toNat * 2 ^ F + m * 2 ^ d)) := by
  obtain ⟨o, n, rfl, hz, hn64⟩ := odd_part h0 hm
  have hassoc : (2 * o + 1) * 2 ^ n * 2 ^ d = (2 * o + 1) * 2 ^ (n + d) := by rw [Nat.pow_add, Nat.mul_assoc]
  have hp := Pack_rep h hm hz hn64 he0 he1 (u := n + d) ⟨by rw [← hassoc]; exact hM, by omega, by rw [← hassoc]; omega⟩ neg k
  rw [hp, ← hassoc, show e + (n : Int) - ((n + d : Nat) : Int) = e - d by omega, outb_of h hM hX hn]
theorem Pack_carry {size F E S : Nat} {L : Int} {I : Nat} (h : IsFmt size F E S L I) {X : Int} (hX : L ≤ X) (hX2 : X ≤ 5000) (neg : Bool) (k : Nat) :
    bits_Pack.f (k + 2) neg 2 ((2 ^ (F + 1) : Nat) : Int) X size = some (outb S I neg ((X - L).toNat * 2 ^ F + 2 ^ (F + 1))) := by
  obtain ⟨hF0, hF, hS, hFS, hL, _, hF23⟩ := fmt_small h
  have h64 : 2 ^ (F + 1) < 18446744073709551616 := by
    have : 2 ^ (F + 1) < 2 ^ 64 := Nat.pow_lt_pow_right (by decide) (by omega)
    omega
  have e1 : (2 * 0 + 1) * 2 ^ (F + 1) = 2 ^ (F + 1) := by omega
  have e2 : (2 * 0 + 1) * 2 ^ F = 2 ^ F := by omega
  have es : 2 ^ (F + 1) = 2 ^ F * 2 := Nat.pow_succ ..
  have hp := Pack_rep h (o := 0) (n := F + 1) (by rw [e1]; exact h64) (ctz_mul (by rw [e1]; exact h64)) (by omega) (e := X) (by omega) (by omega) (u := F) ⟨by rw [e2]; have := Nat.two_pow_pos F; omega, by omega, .inl (by rw [e2]; exact Nat.le_refl _)⟩ neg k
  rw [e1, e2, show X + ((F + 1 : Nat) : Int) - (F : Int) = X + 1 by omega] at hp
  rw [hp, outb_of h (by have := Nat.two_pow_pos F; omega) (by omega) (.inl (Nat.le_refl _))]
  have e3 : (X + 1 - L).toNat * 2 ^ F + 2 ^ F = (X - L).toNat * 2 ^ F + 2 ^ (F + 1) := by
    rw [show (X + 1 - L).toNat = (X - L).toNat + 1 by omega, Nat.add_mul]; omega
  rw [e3]
theorem lastOf_ge (F : Nat) (L : Int) (m : Nat) (e : Int) : L ≤ lastOf F L m e := by unfold lastOf; omega
/-- What lies on its grid as it is. -/
theorem Pack_exact {size F E S : Nat} {L : Int} {I : Nat} (h : IsFmt size F E S L I) {m : Nat} {e : Int} (h0 : 0 < m) (hm : m < 18446744073709551616) (he0 : -5000 ≤ e) (he1 : e ≤ 5000) (hl : lastOf F L m e ≤ e) (neg : Bool) (k : Nat) :
    bits_Pack.f (k + 2) neg 2 (m : Int) e size = some (outb S I neg (bitsv F L m e)) := by
  obtain ⟨g1, g2, g3⟩ := gridv_bounds (F := F) (L := L) h0 hm e
  have hg : gridv m e (lastOf F L m e) = m * 2 ^ (e - lastOf F L m e).toNat := by unfold gridv; rw [if_pos hl]
  have hL := lastOf_ge F L m e
  unfold bitsv
  rw [hg] at g1 g2 g3 ⊢
  generalize lastOf F L m e = l at *
  generalize hd : (e - l).toNat = d at *
  have hp := Pack_val h h0 hm he0 he1 (d := d) (g3 hl) (by omega) (by omega) neg k
  rw [show e - (d : Int) = l by omega] at hp
  exact hp
/-- What was rounded to its grid, and is above 0. -/
theorem Pack_grid {size F E S : Nat} {L : Int} {I : Nat} (h : IsFmt size F E S L I) {m : Nat} {e : Int} (h0 : 0 < m) (hm : m < 18446744073709551616) (hg0 : 0 < gridv m e (lastOf F L m e)) (hl : lastOf F L m e ≤ 4900) (neg : Bool) (k : Nat) :
    bits_Pack.f (k + 2) neg 2 ((gridv m e (lastOf F L m e) : Nat) : Int) (lastOf F L m e) size = some (outb S I neg (bitsv F L m e)) := by
  obtain ⟨g1, g2, _⟩ := gridv_bounds (F := F) (L := L) h0 hm e
  obtain ⟨hF0, hF, hS, hFS, hLL, _, hF23⟩ := fmt_small h
  have hL := lastOf_ge F L m e
  have h64 : 2 ^ (F + 1) < 18446744073709551616 := by
    have : 2 ^ (F + 1) < 2 ^ 64 := Nat.pow_lt_pow_right (by decide) (by omega)
    omega
  unfold bitsv
  generalize lastOf F L m e = l at *
  generalize gridv m e l = g at *
  rcases Nat.lt_or_ge g (2 ^ (F + 1)) with hlt | hge
  · have hp := Pack_val h hg0 (by omega) (e := l) (by omega) (by omega) (d := 0) (by omega) (by omega) (by omega) neg k
    rw [Nat.pow_zero, Nat.mul_one, show l - ((0 : Nat) : Int) = l by omega] at hp
    exact hp
  · obtain rfl : g = 2 ^ (F + 1) := by omega
    exact Pack_carry h hL (by omega) neg k
end Go.Proofs.YtbnmchaldolpfaaDoor.XoB
end
section
namespace Go.Proofs.YtbnmchaldolpfaaDoor.XoB
open Go.RowKit Go.Proofs.YtbnmchaldolpfaaDoor.Xo Go.Proofs.YtbnmchaldolpfaaDoor.A Go.Proofs.YtbnmchaldolpfaaDoor.Q Go.Proofs.YtbnmchaldolpfaaDoorW.PrintWords Go.Proofs.YtbnmchaldolpfaaDoorW.PrintLast Go.Proofs.YtbnmchaldolpfaaDoorW.PrintMore
set_option linter.unusedSimpArgs false
set_option linter.unusedVariables false
theorem Pack_zero' {size F E S : Nat} {L : Int} {I : Nat} (h : IsFmt size F E S L I) (k : Nat) (neg : Bool) (m e : Int) : bits_Pack.f k neg 1 m e size = some (((sgn S neg 0 : Nat) : Int), none) := by
  rw [Pack_zero h]; unfold sgn
  cases neg
  · rfl
  · rw [if_pos rfl, if_pos rfl, Nat.zero_add]
theorem Pack_inf' {size F E S : Nat} {L : Int} {I : Nat} (h : IsFmt size F E S L I) (k : Nat) (neg : Bool) (m e : Int) : bits_Pack.f k neg 3 m e size = some (((sgn S neg I : Nat) : Int), none) := Pack_inf h k neg m e
end Go.Proofs.YtbnmchaldolpfaaDoor.XoB
end
section
namespace Go.Proofs.YtbnmchaldolpfaaDoor.XoB
open Go.RowKit Go.Proofs.YtbnmchaldolpfaaDoor.Xo Go.Proofs.YtbnmchaldolpfaaDoor.A Go.Proofs.YtbnmchaldolpfaaDoor.Q Go.Proofs.YtbnmchaldolpfaaDoorW.PrintWords Go.Proofs.YtbnmchaldolpfaaDoorW.PrintLast Go.Proofs.YtbnmchaldolpfaaDoorW.PrintMore
set_option linter.unusedSimpArgs false
set_option linter.unusedVariables false
theorem Pack_bits {size F E S : Nat} {L : Int} {I : Nat} (h : IsFmt size F E S L I) {Q : Nat} {last : Int} (hQ0 : 0 < Q) (hQ : Q ≤ 2 ^ (F + 1)) (hL : L ≤ last) (hn : 2 ^ F ≤ Q ∨ last = L) (neg : Bool) (k : Nat) :
    bits_Pack.f (k + 200) neg 2 (Q : Int) last size = some (outb S I neg ((last - L).toNat * 2 ^ F + Q)) := by
  obtain ⟨hF0, hF, hS, hFS, hLL, _, hF23⟩ := fmt_small h
  have h64 : 2 ^ (F + 1) ≤ 2 ^ 63 := Nat.pow_le_pow_right (by decide) (by omega)
  by_cases hfar : 5000 < last
  · rw [Pack_far h hQ0 (by omega) (.inr hfar) neg (k + 199)]
    unfold outb
    rw [if_pos]
    rcases h with ⟨rfl, rfl, rfl, rfl, rfl, rfl⟩ | ⟨rfl, rfl, rfl, rfl, rfl, rfl⟩ <;> omega
  · by_cases hc : Q = 2 ^ (F + 1)
    · subst hc
      exact Pack_carry h hL (by omega) neg (k + 198)
    · have := Pack_val h (m := Q) (d := 0) (e := last) hQ0 (by omega) (by omega) (by omega) (by rw [Nat.pow_zero, Nat.mul_one]; omega) (by omega) (by rw [Nat.pow_zero, Nat.mul_one]; omega) neg (k + 198)
      rw [Nat.pow_zero, Nat.mul_one, show last - ((0 : Nat) : Int) - L = last - L by omega] at this
      exact this
end Go.Proofs.YtbnmchaldolpfaaDoor.XoB
end
section
namespace Go.Proofs.YtbnmchaldolpfaaDoor.XoB
open Go.RowKit Go.Proofs.YtbnmchaldolpfaaDoor.Xo Go.Proofs.YtbnmchaldolpfaaDoor.A Go.Proofs.YtbnmchaldolpfaaDoor.Q Go.Proofs.YtbnmchaldolpfaaDoorW.PrintWords Go.Proofs.YtbnmchaldolpfaaDoorW.PrintLast
set_option linter.unusedSimpArgs false
set_option linter.unusedVariables false
theorem mx_int (a b : Int) : mx a b = max a b := by unfold mx; split <;> omega
theorem gridv_pos {F : Nat} {L : Int} {m : Nat} {e : Int} (h0 : 0 < m) (hm : m < 18446744073709551616) (hg : gridv m e (lastOf F L m e) = 0) : bitsv F L m e = 0 := by
  obtain ⟨g1, g2, _⟩ := gridv_bounds (F := F) (L := L) h0 hm e
  have hp := Nat.two_pow_pos F
  unfold bitsv
  rw [hg] at g2 ⊢
  have : lastOf F L m e = L := by omega
  rw [this, show (L - L).toNat = 0 by omega, Nat.zero_mul]
/-- What Round answers for the bits b, if there were no greatest. -/
def outr (S I : Nat) (neg : Bool) (b : Nat) : Int × Option Int := if I ≤ b then (((sgn S neg I : Nat) : Int), some 4) else (((sgn S neg b : Nat) : Int), none)
theorem beyond_ok {size F E S : Nat} {L : Int} {I : Nat} (h : IsFmt size F E S L I) (k : Nat) (neg : Bool) : hexin_beyond.f k neg size = some (((sgn S neg I : Nat) : Int), some 4) := by
  have hi : bits_Inf.f k neg size = some (((sgn S neg I : Nat) : Int), none) := by
    unfold bits_Inf.f
    rw [bind_eq (Pack_inf' h k neg 0 0)]
  unfold hexin_beyond.f
  rw [bind_eq hi]
theorem j4_ok {size F E S : Nat} {L : Int} {I : Nat} (h : IsFmt size F E S L I) (k : Nat) (neg : Bool) {M : Int} {X : Int} (z : Int) {b : Nat} (h0 : M ≠ 0) (hP : bits_Pack.f k neg 2 M X size = some (outb S I neg b)) :
    hexin_Round.j4 (k + 1) neg M X size z = some (outr S I neg b) := by
  rw [hexin_Round.j4, if_neg h0, bind_eq hP]
  unfold outb outr
  by_cases hI : I ≤ b
  · rw [if_pos hI, if_neg (by simp), bind_eq (beyond_ok h k neg), if_pos hI]
  · rw [if_neg hI, if_pos (by rfl), if_neg hI]
theorem bits_high {size F E S : Nat} {L : Int} {I : Nat} (h : IsFmt size F E S L I) {m : Nat} {e most : Int} (hmost : most + 2 - F - L = 2 ^ E - 1) (h0 : 0 < m) (hm : m < 18446744073709551616) (hh : (Lib.bitLen m : Int) - 1 + e > most) : I ≤ bitsv F L m e := by
  obtain ⟨g1, g2, _⟩ := gridv_bounds (F := F) (L := L) h0 hm e
  have hl : lastOf F L m e = max ((Lib.bitLen m : Int) - 1 + e - F) L := rfl
  unfold bitsv
  generalize gridv m e (lastOf F L m e) = g at *
  generalize lastOf F L m e = l at *
  rcases h with ⟨rfl, rfl, rfl, rfl, rfl, rfl⟩ | ⟨rfl, rfl, rfl, rfl, rfl, rfl⟩ <;> omega
theorem bits_low {F : Nat} {L : Int} {m : Nat} {e : Int} (hF : F < 64) (h0 : 0 < m) (hm : m < 18446744073709551616) (hc : 64 < lastOf F L m e - e) : bitsv F L m e = 0 := by
  apply gridv_pos h0 hm
  unfold gridv
  rw [if_neg (by omega)]
  apply rhe_small
  have : 2 ^ 65 ≤ 2 ^ (lastOf F L m e - e).toNat := Nat.pow_le_pow_right (by decide) (by omega)
  omega
/-- The rounding of a grid of c bits less. -/
theorem hround {size F E S : Nat} {L : Int} {I : Nat} (h : IsFmt size F E S L I) (neg : Bool) (k m c : Nat) (hm : m < 18446744073709551616) (hc0 : 0 < c) (hc : c ≤ 64) (x2 x18 z : Int) :
    hexin_Round.j3 (k + 1) neg (m : Int) x2 false size z x18 (c : Int) false = hexin_Round.j4 k neg ((rhe m c : Nat) : Int) x18 size z := by
  obtain ⟨t, rfl⟩ : ∃ t, c = t + 1 := ⟨c - 1, by omega⟩
  have hp := Nat.two_pow_pos t
  have hs : 2 ^ (t + 1) = 2 ^ t * 2 := Nat.pow_succ ..
  rw [hexin_Round.j3, if_neg (by decide), if_neg (by omega), if_pos (by omega), wrapi_id (n := ((t + 1 : Nat) : Int) - 1) (by omega) (by omega), show ((t + 1 : Nat) : Int) - 1 = (t : Int) by omega, shl1 t (by omega)]
  rcases Nat.lt_or_ge (t + 1) 64 with hlt | hge
  · have hq : m / 2 ^ (t + 1) < 2 ^ 63 := by
      have : 2 ^ 1 ≤ 2 ^ (t + 1) := Nat.pow_le_pow_right (by decide) (by omega)
      rw [Nat.div_lt_iff_lt_mul (Nat.two_pow_pos _)]
      have := Nat.mul_le_mul_left (2 ^ 63) this
      omega
    rw [if_pos (by omega), if_pos (by omega), if_pos (by omega), shr_u m (t + 1) (by omega)]
    rw [mask_u (t + 1) (by omega), and_mask m (t + 1) hm (by omega)]
    unfold rhe
    generalize m / 2 ^ (t + 1) = q at *
    generalize m % 2 ^ (t + 1) = r at *
    rw [wrapu_id (n := (q : Int) + 1) (by omega) (by omega), and_one (by omega)]
    by_cases h1 : 2 ^ t < r
    · rw [if_pos (by omega), if_pos (by omega)]; rfl
    · rw [if_neg (by omega)]
      by_cases h2 : r = 2 ^ t
      · rw [if_pos (by omega), if_neg (by decide)]
        by_cases h3 : q % 2 = 1
        · rw [if_pos (by omega), if_pos (by omega)]; rfl
        · rw [if_neg (by omega), if_neg (by omega)]
      · rw [if_neg (by omega), if_neg (by omega)]
  · obtain rfl : t = 63 := by omega
    have hrh : rhe m (63 + 1) = if 2 ^ 63 < m then 1 else 0 := by
      unfold rhe
      rw [Nat.mod_eq_of_lt (show m < 2 ^ (63 + 1) by omega), Nat.div_eq_of_lt (show m < 2 ^ (63 + 1) by omega)]
      by_cases h1 : 2 ^ 63 < m
      · rw [if_pos (by omega), if_pos h1]
      · rw [if_neg (by omega), if_neg h1]
    have ha : ¬ Go.bits .and .u64 0 1 = 1 := by decide +kernel
    rw [if_neg (by omega), if_pos (by omega), hrh]
    by_cases h1 : 2 ^ 63 < m
    · rw [if_pos (by omega), if_pos h1]; rfl
    · rw [if_neg (by omega), if_neg h1]
      by_cases h2 : m = 2 ^ 63
      · rw [if_pos (by omega), if_neg (show ¬ false = true by decide), if_neg ha]; rfl
      · rw [if_neg (by omega)]; rfl
theorem j0_ok {size F E S : Nat} {L : Int} {I : Nat} (h : IsFmt size F E S L I) {most w : Int} (hmost : most + 2 - F - L = 2 ^ E - 1) (hw : w = (F : Int) + 1) (neg : Bool) {m : Nat} (h0 : 0 < m) (hm : m < 18446744073709551616) (e : Int) (k : Nat) :
    hexin_Round.j0 (k + 8) neg (m : Int) e false size ((sgn S neg 0 : Nat) : Int) w L most = some (outr S I neg (bitsv F L m (max (-5000) (min e 5000)))) := by
  obtain ⟨hF0, hF, hS, hFS, hL, _, hF23⟩ := fmt_small h
  obtain ⟨hI0, hI, _⟩ := fmt_I h
  have hbl := bitLen_le64 m hm
  have hlen : bits_Len64.f (m : Int) = some ((Lib.bitLen m : Nat) : Int) := by
    unfold bits_Len64.f u64ok
    rw [if_pos (u64ok_of hm), Int.toNat_natCast]
  subst hw
  rw [show k + 8 = (k + 7) + 1 by omega, hexin_Round.j0, bind_eq hlen, if_neg (by omega), mx_int, mn_int, show k + 7 = (k + 6) + 1 by omega, hexin_Round.j1, if_neg (by decide), if_neg (by omega), show k + 6 = (k + 5) + 1 by omega, hexin_Round.j2, if_neg (by decide), if_neg (by omega)]
  generalize he' : max (-5000) (min e 5000) = e' at *
  have he0 : -5000 ≤ e' := by omega
  have he1 : e' ≤ 5000 := by omega
  clear he'
  rw [wrapi_id (n := ((Lib.bitLen m : Nat) : Int) - 1) (by omega) (by omega), wrapi_id (n := ((Lib.bitLen m : Nat) : Int) - 1 + e') (by omega) (by omega)]
  by_cases hh : ((Lib.bitLen m : Nat) : Int) - 1 + e' > most
  · have hb := bits_high h hmost h0 hm hh
    rw [if_pos hh, bind_eq (beyond_ok h _ neg)]
    unfold outr
    rw [if_pos hb]
  · have hmostlt : most ≤ 1100 := by rcases fmt_E h with ⟨h1, _, h2, h3⟩ | ⟨h1, _, h2, h3⟩ <;> omega
    have hlast : mx (wrap64 (wrap64 (((Lib.bitLen m : Nat) : Int) - 1 + e' - ((F : Int) + 1)) + 1)) L = lastOf F L m e' := by
      rw [mx_int, wrapi_id (n := ((Lib.bitLen m : Nat) : Int) - 1 + e' - ((F : Int) + 1)) (by omega) (by omega), wrapi_id (by omega) (by omega)]
      unfold lastOf; omega
    have hl1 : lastOf F L m e' ≤ 1100 := by unfold lastOf; omega
    have hl0 := lastOf_ge F L m e'
    rw [if_neg hh, if_neg (by decide), hlast, wrapi_id (n := lastOf F L m e' - e') (by omega) (by omega), show k + 5 = (k + 4) + 1 by omega]
    by_cases hc64 : lastOf F L m e' - e' > 64
    · rw [hexin_Round.j3, if_neg (by decide), if_pos hc64, bits_low (by omega) h0 hm hc64]
      unfold outr
      rw [if_neg (by omega)]
    · by_cases hc0 : lastOf F L m e' - e' > 0
      · obtain ⟨c, hc⟩ : ∃ c : Nat, lastOf F L m e' - e' = c := ⟨(lastOf F L m e' - e').toNat, by omega⟩
        have hgv : gridv m e' (lastOf F L m e') = rhe m c := by unfold gridv; rw [if_neg (by omega), hc, Int.toNat_natCast]
        rw [hc, hround h neg (k + 4) m c hm (by omega) (by omega), ← hgv]
        rcases Nat.eq_zero_or_pos (gridv m e' (lastOf F L m e')) with hg | hg
        · rw [hg, show k + 4 = (k + 3) + 1 by omega, hexin_Round.j4, if_pos (by rfl), gridv_pos h0 hm hg]
          unfold outr
          rw [if_neg (by omega)]
        · rw [show k + 4 = (k + 3) + 1 by omega]
          exact j4_ok h (k + 3) neg _ (by omega) (Pack_grid h h0 hm hg (by omega) neg (k + 1))
      · rw [hexin_Round.j3, if_neg (by decide), if_neg hc64, if_neg hc0, show k + 4 = (k + 3) + 1 by omega]
        exact j4_ok h (k + 3) neg _ (by omega) (Pack_exact h h0 hm he0 he1 (by omega) neg (k + 1))
theorem zero_ok {size F E S : Nat} {L : Int} {I : Nat} (h : IsFmt size F E S L I) (k : Nat) (neg : Bool) : bits_Zero.f k neg size = some (((sgn S neg 0 : Nat) : Int), none) := by
  unfold bits_Zero.f
  rw [bind_eq (Pack_zero' h k neg 0 0)]
theorem Round_ok {size F E S : Nat} {L : Int} {I : Nat} (h : IsFmt size F E S L I) (neg : Bool) {m : Nat} (h0 : 0 < m) (hm : m < 18446744073709551616) (e : Int) (k : Nat) :
    hexin_Round.f (k + 8) neg (m : Int) e false size = some (outr S I neg (bitsv F L m (max (-5000) (min e 5000)))) := by
  unfold hexin_Round.f
  rw [bind_eq (zero_ok h _ neg), if_pos (by rfl)]
  have h' := h
  rcases h' with ⟨rfl, rfl, rfl, rfl, rfl, rfl⟩ | ⟨rfl, rfl, rfl, rfl, rfl, rfl⟩
  · rw [if_pos (by rfl)]
    exact j0_ok h (by decide) rfl neg h0 hm e k
  · rw [if_neg (by decide)]
    exact j0_ok h (by decide) rfl neg h0 hm e k
theorem Round_nought {size F E S : Nat} {L : Int} {I : Nat} (h : IsFmt size F E S L I) (neg : Bool) (e : Int) (k : Nat) :
    hexin_Round.f (k + 8) neg 0 e false size = some (((sgn S neg 0 : Nat) : Int), none) := by
  have hlen : bits_Len64.f 0 = some 0 := by decide +kernel
  have hj : ∀ (w l o : Int), hexin_Round.j0 (k + 8) neg 0 e false size ((sgn S neg 0 : Nat) : Int) w l o = some (((sgn S neg 0 : Nat) : Int), none) := by
    intro w l o
    rw [show k + 8 = (k + 7) + 1 by omega, hexin_Round.j0, bind_eq hlen, if_pos rfl, show k + 7 = (k + 6) + 1 by omega, hexin_Round.j1, if_pos (by rfl)]
  unfold hexin_Round.f
  rw [bind_eq (zero_ok h _ neg), if_pos (by rfl), hj, hj]
  split <;> rfl
theorem hsure_ok (k : Nat) : numerallaw17_sure.f (k + 8) = some true := by
  have h := Round_ok fmt64 false (m := 3) (by decide) (by decide) (-1) k
  have e1 : bitsv 52 (-1074) 3 (max (-5000) (min (-1) 5000)) = 4609434218613702656 := by decide +kernel
  rw [e1] at h
  have h2 : hexin_Round.f (k + 8) false 3 (-1) false 64 = some (4609434218613702656, none) := h
  unfold numerallaw17_sure.f
  rw [bind_eq h2, if_pos rfl, if_pos (by rfl)]
end Go.Proofs.YtbnmchaldolpfaaDoor.XoB
end
section
namespace Go.Proofs.YtbnmchaldolpfaaDoor.XoB
open Go.RowKit Go.Proofs.YtbnmchaldolpfaaDoor.Xo Go.Proofs.YtbnmchaldolpfaaDoor.A Go.Proofs.YtbnmchaldolpfaaDoor.Q Go.Proofs.YtbnmchaldolpfaaDoorW.PrintWords Go.Proofs.YtbnmchaldolpfaaDoorW.PrintLast
set_option linter.unusedSimpArgs false
set_option linter.unusedVariables false
theorem rq_true (M t : Nat) : rq M (2 ^ (t + 1)) true = if 2 ^ t ≤ M % 2 ^ (t + 1) then M / 2 ^ (t + 1) + 1 else M / 2 ^ (t + 1) := by
  have hs : 2 ^ (t + 1) = 2 ^ t * 2 := Nat.pow_succ ..
  unfold rq
  by_cases g : 2 ^ t ≤ M % 2 ^ (t + 1)
  · rw [if_pos g, if_pos]
    by_cases g2 : M % 2 ^ (t + 1) = 2 ^ t
    · exact .inr ⟨by omega, .inl rfl⟩
    · left; omega
  · rw [if_neg g, if_neg]
    rintro (c | ⟨c, _⟩) <;> omega
/-- The rounding of a grid of c bits less, with more. -/
theorem hround_more {size F E S : Nat} {L : Int} {I : Nat} (h : IsFmt size F E S L I) (neg : Bool) (k m c : Nat) (hm : m < 18446744073709551616) (hc0 : 0 < c) (hc : c ≤ 64) (x2 x18 z : Int) :
    hexin_Round.j3 (k + 1) neg (m : Int) x2 true size z x18 (c : Int) false = hexin_Round.j4 k neg ((rq m (2 ^ c) true : Nat) : Int) x18 size z := by
  obtain ⟨t, rfl⟩ : ∃ t, c = t + 1 := ⟨c - 1, by omega⟩
  have hp := Nat.two_pow_pos t
  have hs : 2 ^ (t + 1) = 2 ^ t * 2 := Nat.pow_succ ..
  rw [rq_true]
  rw [hexin_Round.j3, if_neg (by decide), if_neg (by omega), if_pos (by omega), wrapi_id (n := ((t + 1 : Nat) : Int) - 1) (by omega) (by omega), show ((t + 1 : Nat) : Int) - 1 = (t : Int) by omega, shl1 t (by omega)]
  rcases Nat.lt_or_ge (t + 1) 64 with hlt | hge
  · have hq : m / 2 ^ (t + 1) < 2 ^ 63 := by
      have : 2 ^ 1 ≤ 2 ^ (t + 1) := Nat.pow_le_pow_right (by decide) (by omega)
      rw [Nat.div_lt_iff_lt_mul (Nat.two_pow_pos _)]
      have := Nat.mul_le_mul_left (2 ^ 63) this
      omega
    rw [if_pos (by omega), if_pos (by omega), if_pos (by omega), shr_u m (t + 1) (by omega)]
    rw [mask_u (t + 1) (by omega), and_mask m (t + 1) hm (by omega)]
    generalize m / 2 ^ (t + 1) = q at *
    generalize m % 2 ^ (t + 1) = r at *
    rw [wrapu_id (n := (q : Int) + 1) (by omega) (by omega)]
    by_cases h1 : 2 ^ t < r
    · rw [if_pos (by omega), if_pos (by omega)]; rfl
    · rw [if_neg (by omega)]
      by_cases h2 : r = 2 ^ t
      · rw [if_pos (by omega), if_pos rfl, if_pos (by omega)]; rfl
      · rw [if_neg (by omega), if_neg (by omega)]
  · obtain rfl : t = 63 := by omega
    rw [Nat.mod_eq_of_lt (show m < 2 ^ (63 + 1) by omega), Nat.div_eq_of_lt (show m < 2 ^ (63 + 1) by omega)]
    rw [if_neg (by omega), if_pos (by omega)]
    by_cases h1 : 2 ^ 63 < m
    · rw [if_pos (by omega), if_pos (by omega)]; rfl
    · rw [if_neg (by omega)]
      by_cases h2 : m = 2 ^ 63
      · rw [if_pos (by omega), if_pos rfl, if_pos (by omega)]; rfl
      · rw [if_neg (by omega), if_neg (by omega)]; rfl
/-- The mantissa in the normal form. -/
theorem mt_norm {F m : Nat} {L e : Int} (h0 : 0 < m) (hm : m < 18446744073709551616) (t : Int) :
    mtt m e (lastOf F L m e) t ≤ 2 ^ (F + 1) ∧ (2 ^ F ≤ mtt m e (lastOf F L m e) t ∨ lastOf F L m e = L) ∧ L ≤ lastOf F L m e := by
  obtain ⟨b0, b1, b2⟩ := blen_spec _ m rfl h0 hm
  have hl : lastOf F L m e = max ((Lib.bitLen m : Int) - 1 + e - F) L := rfl
  have hle := rqt_le (m * pu (e - lastOf F L m e)) (pd (e - lastOf F L m e)) t
  have hge := rqt_ge (m * pu (e - lastOf F L m e)) (pd (e - lastOf F L m e)) t
  unfold mtt
  generalize lastOf F L m e = last at *
  refine ⟨?_, ?_, by omega⟩
  · have h1 : m * pu (e - last) / pd (e - last) < 2 ^ (F + 1) := by
      rw [Nat.div_lt_iff_lt_mul (pd_pos _)]
      have a1 : m * pu (e - last) < 2 ^ Lib.bitLen m * pu (e - last) := Nat.mul_lt_mul_of_pos_right b2 (pu_pos _)
      have a2 : 2 ^ Lib.bitLen m * pu (e - last) ≤ 2 ^ (F + 1) * pd (e - last) := by
        unfold pu pd
        rw [← Nat.pow_add, ← Nat.pow_add]
        exact Nat.pow_le_pow_right (by decide) (by omega)
      omega
    omega
  · by_cases g : last = L
    · exact .inr g
    · left
      refine Nat.le_trans ?_ hge
      rw [Nat.le_div_iff_mul_le (pd_pos _)]
      have a1 : 2 ^ (Lib.bitLen m - 1) * pu (e - last) ≤ m * pu (e - last) := Nat.mul_le_mul_right _ b1
      have a2 : 2 ^ F * pd (e - last) ≤ 2 ^ (Lib.bitLen m - 1) * pu (e - last) := by
        unfold pu pd
        rw [← Nat.pow_add, ← Nat.pow_add]
        exact Nat.pow_le_pow_right (by decide) (by omega)
      omega
/-- What j4 answers for a rounded mantissa. -/
theorem j4_mt {size F E S : Nat} {L : Int} {I : Nat} (h : IsFmt size F E S L I) (k : Nat) (neg : Bool) {Q : Nat} {last : Int} (h1 : Q ≤ 2 ^ (F + 1)) (h2 : 2 ^ F ≤ Q ∨ last = L) (h3 : L ≤ last) :
    hexin_Round.j4 (k + 201) neg (Q : Int) last size ((sgn S neg 0 : Nat) : Int) = some (outr S I neg ((last - L).toNat * 2 ^ F + Q)) := by
  obtain ⟨hI0, hI, _⟩ := fmt_I h
  rcases Nat.eq_zero_or_pos Q with hg | hg
  · have hl : last = L := by
      rcases h2 with g | g
      · have := Nat.two_pow_pos F; omega
      · exact g
    subst hl
    rw [hg, show k + 201 = (k + 200) + 1 by omega, hexin_Round.j4, if_pos (by rfl), show (last - last).toNat = 0 by omega, Nat.zero_mul, Nat.add_zero]
    unfold outr
    rw [if_neg (by omega)]
  · exact j4_ok h (k + 200) neg _ (by omega) (Pack_bits h hg h1 h3 h2 neg k)
theorem j0_more {size F E S : Nat} {L : Int} {I : Nat} (h : IsFmt size F E S L I) {most w : Int} (hmost : most + 2 - F - L = 2 ^ E - 1) (hw : w = (F : Int) + 1) (neg : Bool) {m : Nat} (h0 : 0 < m) (hm : m < 18446744073709551616) (e : Int) (k : Nat) {e' : Int} (he' : max (-5000) (min e 5000) = e') :
    hexin_Round.j0 (k + 210) neg (m : Int) e true size ((sgn S neg 0 : Nat) : Int) w L most = some (if (Lib.bitLen m : Int) - 1 + e' > most then (((sgn S neg I : Nat) : Int), some 4) else if lastOf F L m e' - e' < 1 then (0, some 1) else outr S I neg (hb F L m e' (lastOf F L m e') 1)) := by
  obtain ⟨hF0, hF, hS, hFS, hL, _, hF23⟩ := fmt_small h
  obtain ⟨hI0, hI, _⟩ := fmt_I h
  have hbl := bitLen_le64 m hm
  have hlen : bits_Len64.f (m : Int) = some ((Lib.bitLen m : Nat) : Int) := by
    unfold bits_Len64.f u64ok
    rw [if_pos (u64ok_of hm), Int.toNat_natCast]
  subst hw
  rw [show k + 210 = (k + 209) + 1 by omega, hexin_Round.j0, bind_eq hlen, if_neg (by omega), mx_int, mn_int, show k + 209 = (k + 208) + 1 by omega, hexin_Round.j1, if_neg (by decide), if_neg (by omega), show k + 208 = (k + 207) + 1 by omega, hexin_Round.j2, if_neg (by decide), if_neg (by omega), he']
  have he0 : -5000 ≤ e' := by omega
  have he1 : e' ≤ 5000 := by omega
  clear he'
  rw [wrapi_id (n := ((Lib.bitLen m : Nat) : Int) - 1) (by omega) (by omega), wrapi_id (n := ((Lib.bitLen m : Nat) : Int) - 1 + e') (by omega) (by omega)]
  by_cases hh : ((Lib.bitLen m : Nat) : Int) - 1 + e' > most
  · rw [if_pos hh, bind_eq (beyond_ok h _ neg), if_pos hh]
  · have hmostlt : most ≤ 1100 := by rcases fmt_E h with ⟨h1, _, h2, h3⟩ | ⟨h1, _, h2, h3⟩ <;> omega
    have hlast : mx (wrap64 (wrap64 (((Lib.bitLen m : Nat) : Int) - 1 + e' - ((F : Int) + 1)) + 1)) L = lastOf F L m e' := by
      rw [mx_int, wrapi_id (n := ((Lib.bitLen m : Nat) : Int) - 1 + e' - ((F : Int) + 1)) (by omega) (by omega), wrapi_id (by omega) (by omega)]
      unfold lastOf; omega
    have hl1 : lastOf F L m e' ≤ 1100 := by unfold lastOf; omega
    have hl0 := lastOf_ge F L m e'
    obtain ⟨n1, n2, n3⟩ := mt_norm (F := F) (L := L) (e := e') h0 hm 1
    rw [if_neg hh, if_neg hh, if_pos rfl, hlast, wrapi_id (n := lastOf F L m e' - e') (by omega) (by omega), show k + 207 = (k + 206) + 1 by omega]
    by_cases hc1 : lastOf F L m e' - e' < 1
    · rw [decide_eq_true hc1, hexin_Round.j3, if_pos rfl, if_pos hc1]
    · rw [decide_eq_false hc1, if_neg hc1]
      obtain ⟨c, hc⟩ : ∃ c : Nat, lastOf F L m e' - e' = c := ⟨(lastOf F L m e' - e').toNat, by omega⟩
      have hmt : mtt m e' (lastOf F L m e') 1 = rq m (2 ^ c) true := by rw [mt_down hc, rqt_one]
      by_cases hc64 : lastOf F L m e' - e' > 64
      · have hsm : rq m (2 ^ c) true = 0 := by
          refine rq_small true ?_
          have : 2 ^ 65 ≤ 2 ^ c := Nat.pow_le_pow_right (by decide) (by omega)
          omega
        have hlL : lastOf F L m e' = L := by
          rcases n2 with g | g
          · rw [hmt, hsm] at g; have := Nat.two_pow_pos F; omega
          · exact g
        rw [hexin_Round.j3, if_neg (by decide), if_pos hc64]
        unfold hb
        rw [hmt, hsm, hlL, show (L - L).toNat = 0 by omega, Nat.zero_mul]
        unfold outr
        rw [if_neg (by omega)]
      · rw [hc, hround_more h neg (k + 206) m c hm (by omega) (by omega), ← hmt]
        exact j4_mt h (k + 5) neg n1 n2 n3
theorem Round_more {size F E S : Nat} {L : Int} {I : Nat} (h : IsFmt size F E S L I) (neg : Bool) {m : Nat} (h0 : 0 < m) (hm : m < 18446744073709551616) (e : Int) (k : Nat) {e' : Int} (he' : max (-5000) (min e 5000) = e') :
    ∃ most : Int, most + 2 - F - L = 2 ^ E - 1 ∧ hexin_Round.f (k + 210) neg (m : Int) e true size = some (if (Lib.bitLen m : Int) - 1 + e' > most then (((sgn S neg I : Nat) : Int), some 4) else if lastOf F L m e' - e' < 1 then (0, some 1) else outr S I neg (hb F L m e' (lastOf F L m e') 1)) := by
  unfold hexin_Round.f
  rw [bind_eq (zero_ok h _ neg), if_pos (by rfl)]
  have h' := h
  rcases h' with ⟨rfl, rfl, rfl, rfl, rfl, rfl⟩ | ⟨rfl, rfl, rfl, rfl, rfl, rfl⟩
  · rw [if_pos (by rfl)]
    exact ⟨127, by decide, j0_more h (by decide) rfl neg h0 hm e k he'⟩
  · rw [if_neg (by decide)]
    exact ⟨1023, by decide, j0_more h (by decide) rfl neg h0 hm e k he'⟩
theorem Round_nought_more {size F E S : Nat} {L : Int} {I : Nat} (h : IsFmt size F E S L I) (neg : Bool) (e : Int) (k : Nat) :
    hexin_Round.f (k + 210) neg 0 e true size = some (if max (-5000) (min e 5000) < L then (((sgn S neg 0 : Nat) : Int), none) else (0, some 1)) := by
  have hlen : bits_Len64.f 0 = some 0 := by decide +kernel
  have hj : ∀ (w o : Int), hexin_Round.j0 (k + 210) neg 0 e true size ((sgn S neg 0 : Nat) : Int) w L o = some (if max (-5000) (min e 5000) < L then (((sgn S neg 0 : Nat) : Int), none) else (0, some 1)) := by
    intro w o
    rw [show k + 210 = (k + 209) + 1 by omega, hexin_Round.j0, bind_eq hlen, if_pos rfl, show k + 209 = (k + 208) + 1 by omega, mx_int, mn_int, hexin_Round.j1, if_neg (by decide), if_pos rfl, show k + 208 = (k + 207) + 1 by omega, hexin_Round.j2]
    by_cases g : max (-5000) (min e 5000) < L
    · rw [if_pos (decide_eq_true g), if_pos g]
    · rw [if_neg (by simpa using g), if_pos rfl, if_neg g]
  unfold hexin_Round.f
  rw [bind_eq (zero_ok h _ neg), if_pos (by rfl)]
  have h' := h
  rcases h' with ⟨rfl, rfl, rfl, rfl, rfl, rfl⟩ | ⟨rfl, rfl, rfl, rfl, rfl, rfl⟩
  · rw [if_pos (by rfl)]; exact hj 24 127
  · rw [if_neg (by decide)]; exact hj 53 1023
end Go.Proofs.YtbnmchaldolpfaaDoor.XoB
end
section
namespace Go.Proofs.YtbnmchaldolpfaaDoor.XoB
open Go.RowKit Go.Proofs.YtbnmchaldolpfaaDoor.Xo Go.Proofs.YtbnmchaldolpfaaDoor.A Go.Proofs.YtbnmchaldolpfaaDoor.Q Go.Proofs.YtbnmchaldolpfaaDoorW.PrintWords Go.Proofs.YtbnmchaldolpfaaDoorW.PrintLast
set_option linter.unusedSimpArgs false
set_option linter.unusedVariables false
/-- The reference's answer: the float's bits, and whether it is beyond. -/
def nr (I B : Nat) : Int × Bool := if I ≤ B then ((I : Int), true) else ((B : Int), false)
theorem nr_eq {I B C : Nat} : nr I B = nr I C ↔ B = C ∨ (I ≤ B ∧ I ≤ C) := by
  unfold nr
  by_cases h1 : I ≤ B <;> by_cases h2 : I ≤ C
  · rw [if_pos h1, if_pos h2]; exact ⟨fun _ => .inr ⟨h1, h2⟩, fun _ => rfl⟩
  · rw [if_pos h1, if_neg h2]
    refine ⟨fun h => ?_, fun h => by omega⟩
    have := congrArg Prod.snd h; simp at this
  · rw [if_neg h1, if_pos h2]
    refine ⟨fun h => ?_, fun h => by omega⟩
    have := congrArg Prod.snd h; simp at this
  · rw [if_neg h1, if_neg h2]
    refine ⟨fun h => ?_, fun h => ?_⟩
    · have := congrArg Prod.fst h; simp at this; exact .inl (by omega)
    · rcases h with h | h
      · rw [h]
      · omega
theorem rhe_rq (m c : Nat) : rhe m c = rqt m (2 ^ c) 0 := by
  rw [rqt_zero]
  unfold rhe rq
  simp only [Bool.false_eq_true, false_or]
theorem bitsv_hb (F : Nat) (L : Int) (m : Nat) (e : Int) : bitsv F L m e = hb F L m e (lastOf F L m e) 0 := by
  unfold bitsv hb
  congr 1
  unfold gridv
  by_cases h : lastOf F L m e ≤ e
  · rw [if_pos h, mt_up h]
  · obtain ⟨c, hc⟩ : ∃ c : Nat, lastOf F L m e - e = c := ⟨(lastOf F L m e - e).toNat, by omega⟩
    rw [if_neg h, mt_down hc, hc, Int.toNat_natCast, rhe_rq]
/-- Beyond the greatest. -/
theorem hb_high {size F E S : Nat} {L : Int} {I : Nat} (h : IsFmt size F E S L I) {m l : Nat} {e most last : Int} (hmost : most + 2 - F - L = 2 ^ E - 1) (h1 : 2 ^ (l - 1) ≤ m) (h2 : 0 < l) (hl : last = max ((l : Int) - 1 + e - F) L) (hh : (l : Int) - 1 + e > most) (t : Int) : I ≤ hb F L m e last t := by
  have hge := rqt_ge (m * pu (e - last)) (pd (e - last)) t
  have hlast : last = (l : Int) - 1 + e - F := by rcases h with ⟨rfl, rfl, rfl, rfl, rfl, rfl⟩ | ⟨rfl, rfl, rfl, rfl, rfl, rfl⟩ <;> omega
  have hP : 2 ^ F ≤ m * pu (e - last) / pd (e - last) := by
    rw [Nat.le_div_iff_mul_le (pd_pos _)]
    have a1 : 2 ^ (l - 1) * pu (e - last) ≤ m * pu (e - last) := Nat.mul_le_mul_right _ h1
    have a2 : 2 ^ F * pd (e - last) ≤ 2 ^ (l - 1) * pu (e - last) := by
      unfold pu pd
      rw [← Nat.pow_add, ← Nat.pow_add]
      exact Nat.pow_le_pow_right (by decide) (by omega)
    omega
  unfold hb mtt
  generalize rqt (m * pu (e - last)) (pd (e - last)) t = g at *
  rcases h with ⟨rfl, rfl, rfl, rfl, rfl, rfl⟩ | ⟨rfl, rfl, rfl, rfl, rfl, rfl⟩ <;> omega
/-- Far below the least: nothing. -/
theorem hb_low {F m : Nat} {L e last : Int} (hm : m ≤ 18446744073709551616) (hl : last = L) (hc : 66 ≤ last - e) (t : Int) : hb F L m e last t = 0 := by
  obtain ⟨c, hc'⟩ : ∃ c : Nat, last - e = c := ⟨(last - e).toNat, by omega⟩
  have h1 : rqt m (2 ^ c) t = 0 := by
    have hp : 2 ^ 66 ≤ 2 ^ c := Nat.pow_le_pow_right (by decide) (by omega)
    have a1 : m / 2 ^ c = 0 := Nat.div_eq_of_lt (by omega)
    have a2 : m % 2 ^ c = m := Nat.mod_eq_of_lt (by omega)
    unfold rqt rdn rq
    rw [a1, a2]
    split
    · rw [if_neg (by omega)]
    · split
      · rw [if_neg (by omega)]
      · rw [if_neg (by omega)]
  unfold hb
  rw [mt_down hc', h1, hl, show (L - L).toNat = 0 by omega, Nat.zero_mul]
theorem bl_next {m : Nat} (h0 : 0 < m) (hm : m < 18446744073709551616) : ∃ lb : Nat, 2 ^ (lb - 1) ≤ m + 1 ∧ m + 1 < 2 ^ lb ∧ lb ≤ 65 ∧ (lb = Lib.bitLen m ∨ (lb = Lib.bitLen m + 1 ∧ m + 1 = 2 ^ Lib.bitLen m)) := by
  obtain ⟨b0, b1, b2⟩ := blen_spec _ m rfl h0 hm
  have hle := bitLen_le64 m hm
  by_cases h : m + 1 < 2 ^ Lib.bitLen m
  · exact ⟨Lib.bitLen m, by omega, h, by omega, .inl rfl⟩
  · have e : m + 1 = 2 ^ Lib.bitLen m := by omega
    refine ⟨Lib.bitLen m + 1, by rw [show Lib.bitLen m + 1 - 1 = Lib.bitLen m by omega]; omega, ?_, by omega, .inr ⟨rfl, e⟩⟩
    rw [e]; exact Nat.pow_lt_pow_right (by decide) (by omega)
/-- The program's answer with more, by the reference's two. -/
theorem more_both {size F E S : Nat} {L : Int} {I : Nat} (h : IsFmt size F E S L I) (neg : Bool) {m : Nat} (h0 : 0 < m) (hm : m < 18446744073709551616) (e : Int) (k : Nat) {lb : Nat} (hb1 : 2 ^ (lb - 1) ≤ m + 1) (hb3 : lb = Lib.bitLen m ∨ (lb = Lib.bitLen m + 1 ∧ m + 1 = 2 ^ Lib.bitLen m)) {f : Int} (hf : max (-3000) (min e 3000) = f) :
    hexin_Round.f (k + 210) neg (m : Int) e true size = some (if nr I (hb F L m f (lastOf F L m f) 1) = nr I (hb F L (m + 1) f (max ((lb : Int) - 1 + f - F) L) (-1)) then outr S I neg (hb F L m f (lastOf F L m f) 1) else (0, some 1)) := by
  obtain ⟨hF0, hF, hS, hFS, hL, _, hF23⟩ := fmt_small h
  have hF52 : F ≤ 52 := by rcases h with ⟨_, rfl, _⟩ | ⟨_, rfl, _⟩ <;> omega
  obtain ⟨b0, b1, b2⟩ := blen_spec _ m rfl h0 hm
  have hle := bitLen_le64 m hm
  obtain ⟨most, hmost, hr⟩ := Round_more h neg h0 hm e k rfl
  rw [hr]
  have hmb : most ≤ 1100 ∧ 100 ≤ most := by rcases fmt_E h with ⟨h1, _, h2, h3⟩ | ⟨h1, _, h2, h3⟩ <;> omega
  have hlf : lastOf F L m f = max ((Lib.bitLen m : Int) - 1 + f - F) L := rfl
  by_cases hh : (Lib.bitLen m : Int) - 1 + max (-5000) (min e 5000) > most
  · have hh2 : (Lib.bitLen m : Int) - 1 + f > most := by omega
    have g1 := hb_high h hmost b1 b0 hlf hh2 1
    have g2 := hb_high h hmost hb1 (by omega : 0 < lb) rfl (by omega : (lb : Int) - 1 + f > most) (-1)
    rw [if_pos hh, if_pos (nr_eq.2 (.inr ⟨g1, g2⟩))]
    unfold outr
    rw [if_pos g1]
  · rw [if_neg hh]
    by_cases hlow : e < -3000
    · have hf3 : f = -3000 := by omega
      have hl5 : lastOf F L m (max (-5000) (min e 5000)) = L := by unfold lastOf; omega
      have hl3 : lastOf F L m f = L := by unfold lastOf; omega
      have z1 := hb_low (F := F) (m := m) (L := L) (e := max (-5000) (min e 5000)) (last := lastOf F L m (max (-5000) (min e 5000))) (by omega) hl5 (by omega) 1
      have z2 := hb_low (F := F) (m := m) (L := L) (e := f) (last := lastOf F L m f) (by omega) hl3 (by omega) 1
      have z3 := hb_low (F := F) (m := m + 1) (L := L) (e := f) (last := max ((lb : Int) - 1 + f - F) L) (by omega) (by omega) (by omega) (-1)
      rw [if_neg (by omega), z1, z2, z3, if_pos rfl]
    · have hef : max (-5000) (min e 5000) = f := by
        have : ¬ e > 3000 := by omega
        omega
      rw [hef] at hh ⊢
      by_cases hc : lastOf F L m f - f < 1
      · have hap := hb_apart (F := F) (M := m) (L := L) (exp := f) (la := Lib.bitLen m) (lb := lb) h0 hlf rfl hb3 b2 hc
        have hI : hb F L m f (lastOf F L m f) 1 < I := by
          unfold hb
          rw [mt_up (by omega)]
          have e3 : m * 2 ^ (f - lastOf F L m f).toNat < 2 ^ (F + 1) := by
            have := Nat.mul_lt_mul_of_pos_right b2 (Nat.two_pow_pos (f - lastOf F L m f).toNat)
            rw [← Nat.pow_add] at this
            have h3 : 2 ^ (Lib.bitLen m + (f - lastOf F L m f).toNat) ≤ 2 ^ (F + 1) := Nat.pow_le_pow_right (by decide) (by omega)
            omega
          generalize m * 2 ^ (f - lastOf F L m f).toNat = g at *
          have hlm : lastOf F L m f ≤ most - F := by
            rw [hlf]
            rcases h with ⟨rfl, rfl, rfl, rfl, rfl, rfl⟩ | ⟨rfl, rfl, rfl, rfl, rfl, rfl⟩ <;> omega
          generalize lastOf F L m f = last at *
          rcases h with ⟨rfl, rfl, rfl, rfl, rfl, rfl⟩ | ⟨rfl, rfl, rfl, rfl, rfl, rfl⟩ <;> omega
        rw [if_pos hc, if_neg]
        rw [nr_eq]
        omega
      · have hsm := hb_same (F := F) (M := m) (L := L) (exp := f) (la := Lib.bitLen m) (lb := lb) h0 hlf rfl hb3 (by omega)
        rw [if_neg hc, if_pos (by rw [hsm])]
/-- Without more. -/
theorem plain_both {size F E S : Nat} {L : Int} {I : Nat} (h : IsFmt size F E S L I) (neg : Bool) {m : Nat} (h0 : 0 < m) (hm : m < 18446744073709551616) (e : Int) (k : Nat) {f : Int} (hf : max (-3000) (min e 3000) = f) :
    hexin_Round.f (k + 8) neg (m : Int) e false size = some (outr S I neg (hb F L m f (lastOf F L m f) 0)) := by
  obtain ⟨hF0, hF, hS, hFS, hL, _, hF23⟩ := fmt_small h
  obtain ⟨b0, b1, b2⟩ := blen_spec _ m rfl h0 hm
  have hle := bitLen_le64 m hm
  rw [Round_ok h neg h0 hm e k, bitsv_hb]
  have hmo : ∃ most : Int, most + 2 - F - L = 2 ^ E - 1 ∧ most ≤ 1100 := ⟨2 ^ E - 1 + L + F - 2, by omega, by rcases fmt_E h with ⟨h1, _, h2, h3⟩ | ⟨h1, _, h2, h3⟩ <;> omega⟩
  obtain ⟨most, hmost, hmb⟩ := hmo
  by_cases hhigh : 3000 < e
  · have g1 := hb_high h hmost b1 b0 (show lastOf F L m f = _ from rfl) (by omega) 0
    have g2 := hb_high h hmost b1 b0 (show lastOf F L m (max (-5000) (min e 5000)) = _ from rfl) (by omega) 0
    unfold outr
    rw [if_pos g1, if_pos g2]
  · by_cases hlow : e < -3000
    · have hl5 : lastOf F L m (max (-5000) (min e 5000)) = L := by unfold lastOf; omega
      have hl3 : lastOf F L m f = L := by unfold lastOf; omega
      have z1 := hb_low (F := F) (m := m) (L := L) (e := max (-5000) (min e 5000)) (last := lastOf F L m (max (-5000) (min e 5000))) (by omega) hl5 (by omega) 0
      have z2 := hb_low (F := F) (m := m) (L := L) (e := f) (last := lastOf F L m f) (by omega) hl3 (by omega) 0
      rw [z1, z2]
    · rw [show max (-5000) (min e 5000) = f by omega]
/-- The nought with more. -/
theorem nought_both {F : Nat} {L : Int} {I : Nat} (hI : 0 < I) (hL : L = -149 ∨ L = -1074) (hF : 23 ≤ F) (e : Int) {f : Int} (hf : max (-3000) (min e 3000) = f) : (nr I 0 = nr I (hb F L 1 f (max (((1 : Nat) : Int) - 1 + f - F) L) (-1))) ↔ max (-5000) (min e 5000) < L := by
  rw [nr_eq]
  constructor
  · intro hq
    rcases hq with hq | ⟨hq, _⟩
    · apply Classical.byContradiction
      intro hn
      have hfl : L ≤ f := by omega
      have hpos : 0 < hb F L 1 f (max (((1 : Nat) : Int) - 1 + f - F) L) (-1) := by
        unfold hb
        rw [mt_up (by omega)]
        have := Nat.two_pow_pos (f - max (((1 : Nat) : Int) - 1 + f - F) L).toNat
        omega
      omega
    · omega
  · intro hn
    left
    have hfl : f < L := by omega
    have hl : max (((1 : Nat) : Int) - 1 + f - F) L = L := by omega
    rw [hl]
    obtain ⟨c, hc⟩ : ∃ c : Nat, L - f = ((c + 1 : Nat) : Int) := ⟨(L - f - 1).toNat, by omega⟩
    have hp : 0 < 2 ^ c := Nat.two_pow_pos c
    have hs : 2 ^ (c + 1) = 2 * 2 ^ c := by rw [Nat.pow_succ, Nat.mul_comm]
    unfold hb
    rw [mt_down hc, rqt_neg, show (L - L).toNat = 0 by omega, Nat.zero_mul, Nat.zero_add]
    unfold rdn
    rw [Nat.mod_eq_of_lt (show 1 < 2 ^ (c + 1) by omega), Nat.div_eq_of_lt (show 1 < 2 ^ (c + 1) by omega), if_neg (by omega)]
end Go.Proofs.YtbnmchaldolpfaaDoor.XoB
end
section
namespace Go.Proofs.YtbnmchaldolpfaaDoor.XoH
open Go.RowKit Go.Proofs.YtbnmchaldolpfaaDoor.Xo Go.Proofs.YtbnmchaldolpfaaDoor.A Go.Proofs.YtbnmchaldolpfaaDoor.L Go.Proofs.YtbnmchaldolpfaaDoorW.PrintWords Go.Proofs.YtbnmchaldolpfaaDoorW.PrintLast Go.Proofs.YtbnmchaldolpfaaDoorW.PrintMore
set_option linter.unusedSimpArgs false
set_option linter.unusedVariables false
theorem bind_eqh {α β : Type} {o : Option α} {x : α} {f : α → Option β} (h : o = some x) : o.bind f = f x := by rw [h]; rfl
theorem rd_nat (l : List Int) (i : Nat) : rd l (i : Int) = l.getD i 0 := by unfold rd; rw [Int.toNat_natCast]
theorem dig_at {B : Nat} {l : List Int} (h : okl B l) (hB : 0 < B) (i : Nat) : ∃ x : Nat, rd l (i : Int) = x ∧ x < B ∧ (l.getD i 0).toNat = x := by
  have h1 := okl_get h i hB
  refine ⟨(l.getD i 0).toNat, ?_, by omega, rfl⟩
  rw [rd_nat]; omega
theorem nv_take_step (B : Nat) (l : List Int) (i : Nat) : nv B (l.take (i + 1)) = nv B (l.take i) + B ^ i * (l.getD i 0).toNat := by
  rcases Nat.lt_or_ge i l.length with h | h
  · exact nv_take_succ B h
  · rw [List.take_of_length_le (by omega), List.take_of_length_le h]
    have : l.getD i 0 = 0 := by simp [List.getD, h]
    rw [this]; rfl
theorem add_step {P B a s x y c d c' : Nat} (h : s + P * c = a) (hd : d + B * c' = x + y + c) : s + P * d + P * B * c' = a + P * x + P * y := by
  have h2 := congrArg (P * ·) hd
  simp only [Nat.mul_add] at h2
  rw [Nat.mul_assoc]; omega
theorem sub_step {P B a b s x y w d w' : Nat} (h : s + b = a + P * w) (hd : d + y + w = x + B * w') : s + P * d + (b + P * y) = a + P * x + P * B * w' := by
  have h2 := congrArg (P * ·) hd
  simp only [Nat.mul_add] at h2
  rw [Nat.mul_assoc]; omega
def B64 : Nat := 18446744073709551616
def B32 : Nat := 4294967296
theorem b32_pos : 0 < B32 := by decide
theorem b32_one : 1 < B32 := by decide
def errn (c : Int) : Option Int := if c = 0 then none else some c
/-- The number of a row's error. -/
def vnum (l : List Int) : Int := if 128 < l.length then 20 else if 0 < l.length ∧ l.getD (l.length - 1) 0 = 0 then 1 else 0
/-- The number of two rows' error. -/
def vtwo (a b : List Int) : Int := if vnum a = 0 then vnum b else vnum a
/-! trimming -/
/-! words as digits of 32 bits -/
/-! digits of 32 bits as words -/
end Go.Proofs.YtbnmchaldolpfaaDoor.XoH
end
section
namespace Go.Proofs.YtbnmchaldolpfaaDoor.XoH
open Go.RowKit Go.Proofs.YtbnmchaldolpfaaDoor.Xo Go.Proofs.YtbnmchaldolpfaaDoor.A Go.Proofs.YtbnmchaldolpfaaDoor.L Go.Proofs.YtbnmchaldolpfaaDoorW.PrintWords Go.Proofs.YtbnmchaldolpfaaDoorW.PrintLast Go.Proofs.YtbnmchaldolpfaaDoorW.PrintMore
set_option linter.unusedSimpArgs false
set_option linter.unusedVariables false
/-! the program's sum -/
/-! the reference's sum -/
/-! the order -/
def cmpn (a b : Nat) : Int := if a < b then -1 else if a > b then 1 else 0
theorem cmp_step {B : Nat} (hB : 0 < B) {a b : List Int} (ha : okl B a) (hb : okl B b) (i : Nat) {x y : Nat} (hx : (a.getD i 0).toNat = x) (hy : (b.getD i 0).toNat = y) (hla : i < a.length) (hlb : i < b.length) :
    (x < y → nv B (a.take (i + 1)) < nv B (b.take (i + 1))) ∧ (y < x → nv B (b.take (i + 1)) < nv B (a.take (i + 1))) ∧ (x = y → cmpn (nv B (a.take (i + 1))) (nv B (b.take (i + 1))) = cmpn (nv B (a.take i)) (nv B (b.take i))) := by
  have h1 := nv_lt hB (okl_take ha i)
  have h2 := nv_lt hB (okl_take hb i)
  rw [List.length_take, Nat.min_eq_left (by omega)] at h1 h2
  rw [nv_take_step, nv_take_step, hx, hy]
  generalize nv B (a.take i) = p at *
  generalize nv B (b.take i) = q at *
  refine ⟨fun h => ?_, fun h => ?_, fun h => ?_⟩
  · have := Nat.mul_le_mul_left (B ^ i) (show x + 1 ≤ y from h)
    rw [Nat.mul_add, Nat.mul_one] at this
    omega
  · have := Nat.mul_le_mul_left (B ^ i) (show y + 1 ≤ x from h)
    rw [Nat.mul_add, Nat.mul_one] at this
    omega
  · subst h
    unfold cmpn
    generalize B ^ i * x = z
    by_cases h3 : p < q
    · rw [if_pos h3, if_pos (by omega)]
    · rw [if_neg h3, if_neg (by omega)]
      by_cases h4 : p > q
      · rw [if_pos h4, if_pos (by omega)]
      · rw [if_neg h4, if_neg (by omega)]
theorem len_lt {B : Nat} (hB : 1 < B) {a b : List Int} (ha : okl B a) (hb : okl B b) (tb : top b) (h : a.length < b.length) : nv B a < nv B b := by
  have hne : b ≠ [] := by rintro rfl; simp at h
  have h1 := top_ge (by omega) hb tb hne
  have h2 := nv_lt (by omega : 0 < B) ha
  have h3 : B ^ a.length ≤ B ^ (b.length - 1) := Nat.pow_le_pow_right (by omega) (by omega)
  omega
end Go.Proofs.YtbnmchaldolpfaaDoor.XoH
end
section
namespace Go.Proofs.YtbnmchaldolpfaaDoor.XoH
open Go.RowKit Go.Proofs.YtbnmchaldolpfaaDoor.Xo Go.Proofs.YtbnmchaldolpfaaDoor.A Go.Proofs.YtbnmchaldolpfaaDoor.L Go.Proofs.YtbnmchaldolpfaaDoorW.PrintWords Go.Proofs.YtbnmchaldolpfaaDoorW.PrintLast Go.Proofs.YtbnmchaldolpfaaDoorW.PrintMore
set_option linter.unusedSimpArgs false
set_option linter.unusedVariables false
/-! differences -/
theorem borrow_eq {B x y c : Nat} (hx : x < B) (hy : y < B) (hc : c ≤ 1) : (x + B - y - c) % B + y + c = x + B * (if x < y + c then 1 else 0) := by
  by_cases h : x < y + c
  · rw [if_pos h]
    rcases Nat.lt_or_ge (x + B) (y + c) with h2 | h2
    · omega
    · rw [Nat.mod_eq_of_lt (by omega)]; omega
  · rw [if_neg h, show x + B - y - c = (x - y - c) + B by omega, Nat.add_mod_right, Nat.mod_eq_of_lt (by omega)]; omega
theorem cmpn_neg (a b : Nat) : cmpn a b < 0 ↔ a < b := by
  unfold cmpn
  by_cases h : a < b
  · rw [if_pos h]; simp [h]
  · rw [if_neg h]
    by_cases h2 : a > b
    · rw [if_pos h2]; simp [h]
    · rw [if_neg h2]; simp [h]
theorem len_le_of_nv {B : Nat} (hB : 1 < B) {a b : List Int} (ha : okl B a) (hb : okl B b) (tb : top b) (h : nv B b ≤ nv B a) : b.length ≤ a.length := by
  rcases Nat.lt_or_ge a.length b.length with hlt | hge
  · have := len_lt hB ha hb tb hlt; omega
  · exact hge
/-! the law's own -/
end Go.Proofs.YtbnmchaldolpfaaDoor.XoH
end
section
namespace Go.Proofs.YtbnmchaldolpfaaDoor.XoH
open Go.RowKit Go.Proofs.YtbnmchaldolpfaaDoor.Xo Go.Proofs.YtbnmchaldolpfaaDoor.A Go.Proofs.YtbnmchaldolpfaaDoor.L Go.Proofs.YtbnmchaldolpfaaDoorW.PrintWords Go.Proofs.YtbnmchaldolpfaaDoorW.PrintLast Go.Proofs.YtbnmchaldolpfaaDoorW.PrintMore
set_option linter.unusedSimpArgs false
set_option linter.unusedVariables false
/-- L binary digits has n. -/
def bl (n L : Nat) : Prop := n < 2 ^ L ∧ (0 < n → 0 < L ∧ 2 ^ (L - 1) ≤ n) ∧ (n = 0 → L = 0)
theorem tmod32 (n : Nat) : Int.tmod (n : Int) 32 = ((n % 32 : Nat) : Int) := (Int.ofNat_tmod n 32).symm
theorem tdiv32 (n : Nat) : Int.tdiv (n : Int) 32 = ((n / 32 : Nat) : Int) := (Int.ofNat_tdiv n 32).symm
end Go.Proofs.YtbnmchaldolpfaaDoor.XoH
end
section
namespace Go.Proofs.YtbnmchaldolpfaaDoor.XoH
open Go.RowKit Go.Proofs.YtbnmchaldolpfaaDoor.Xo Go.Proofs.YtbnmchaldolpfaaDoor.A Go.Proofs.YtbnmchaldolpfaaDoor.L Go.Proofs.YtbnmchaldolpfaaDoorW.PrintWords Go.Proofs.YtbnmchaldolpfaaDoorW.PrintLast Go.Proofs.YtbnmchaldolpfaaDoorW.PrintMore
set_option linter.unusedSimpArgs false
set_option linter.unusedVariables false
theorem dig_val {B : Nat} (hB : 0 < B) {l : List Int} (h : okl B l) (j : Nat) : (l.getD j 0).toNat = nv B l / B ^ j % B := by
  have hp : 0 < B ^ j := Nat.pow_pos hB
  rcases Nat.lt_or_ge j l.length with hj | hj
  · have h1 := nv_take_drop B l j (by omega)
    have h2 := nv_lt hB (okl_take h j)
    rw [List.length_take, Nat.min_eq_left (by omega)] at h2
    rw [h1, Nat.add_mul_div_left _ _ hp, Nat.div_eq_of_lt h2, Nat.zero_add, drop_get hj, nv, Nat.add_mul_mod_self_left]
    have := okl_get h j hB
    rw [Nat.mod_eq_of_lt (by omega)]
  · have h0 : l.getD j 0 = 0 := by simp [List.getD, hj]
    have h2 := nv_lt hB h
    have h3 : B ^ l.length ≤ B ^ j := Nat.pow_le_pow_right hB hj
    rw [h0, Nat.div_eq_of_lt (by omega), Nat.zero_mod]; rfl
theorem cmpn_ge (a b : Nat) : cmpn a b ≥ 0 ↔ b ≤ a := by
  have := cmpn_neg a b
  omega
end Go.Proofs.YtbnmchaldolpfaaDoor.XoH
end
section
namespace Go.Proofs.YtbnmchaldolpfaaDoor.XoH
open Go.RowKit Go.Proofs.YtbnmchaldolpfaaDoor.Xo Go.Proofs.YtbnmchaldolpfaaDoor.A Go.Proofs.YtbnmchaldolpfaaDoor.L Go.Proofs.YtbnmchaldolpfaaDoorW.PrintWords Go.Proofs.YtbnmchaldolpfaaDoorW.PrintLast Go.Proofs.YtbnmchaldolpfaaDoorW.PrintMore
set_option linter.unusedSimpArgs false
set_option linter.unusedVariables false
theorem pow_split32 (n : Nat) : 2 ^ n = B32 ^ (n / 32) * 2 ^ (n % 32) := by
  have e : B32 = 2 ^ 32 := rfl
  rw [e, ← Nat.pow_mul, ← Nat.pow_add]; congr 1; have := Nat.div_add_mod n 32; omega
theorem tmodH (d : Nat) : Int.tmod (d : Int) 4294967296 = ((d % 4294967296 : Nat) : Int) := (Int.ofNat_tmod d 4294967296).symm
theorem tdivH (d : Nat) : Int.tdiv (d : Int) 4294967296 = ((d / 4294967296 : Nat) : Int) := (Int.ofNat_tdiv d 4294967296).symm
/-! ### trim, Small, Cmp -/
theorem btrim_l0 (l : List Int) (hl : l.length < 1000000000000000) : ∀ (n k : Nat), n ≤ l.length → n + 1 ≤ k → ∃ m, m ≤ n ∧ numeralref13_trim.l0 k l (n : Int) = some (l.take m) ∧ top (l.take m) ∧ (∀ B, nv B (l.take m) = nv B (l.take n))
  | 0, k + 1, hn, hk => by
    refine ⟨0, Nat.le_refl _, ?_, top_nil, fun _ => rfl⟩
    rw [numeralref13_trim.l0, if_neg (by omega), if_pos (by omega), if_pos (by omega)]; rfl
  | n + 1, k + 1, hn, hk => by
    rw [numeralref13_trim.l0, if_pos (by omega), wrapi_id (n := ((n + 1 : Nat) : Int) - 1) (by omega) (by omega), show ((n + 1 : Nat) : Int) - 1 = (n : Int) by omega, if_pos (by omega), if_pos (by omega)]
    by_cases h0 : rd l (n : Int) = 0
    · obtain ⟨m, hm, hr, ht, hv⟩ := btrim_l0 l hl n k (by omega) (by omega)
      refine ⟨m, by omega, by rw [if_pos h0]; exact hr, ht, fun B => ?_⟩
      rw [hv, nv_take_step, ← rd_nat, h0]; rfl
    · refine ⟨n + 1, Nat.le_refl _, ?_, ?_, fun _ => rfl⟩
      · rw [if_neg h0, if_pos (by omega), if_pos (by omega), Int.toNat_natCast]
      · rw [take_get (by omega), ← rd_nat]; exact top_snoc h0
theorem btrim_ok {l : List Int} (hl : l.length < 1000000000000000) {k : Nat} (hk : l.length + 1 ≤ k) : ∃ m, m ≤ l.length ∧ numeralref13_trim.f k l = some (l.take m) ∧ top (l.take m) ∧ (∀ B, nv B (l.take m) = nv B l) := by
  obtain ⟨m, h1, h2, h3, h4⟩ := btrim_l0 l hl l.length k (Nat.le_refl _) hk
  refine ⟨m, h1, h2, h3, fun B => ?_⟩
  rw [h4, List.take_length]
theorem bsmall_ok {d : Nat} (hd : d < B64) {k : Nat} (hk : 10 ≤ k) : ∃ p, numeralref13_Small.f k (d : Int) = some p ∧ okl B32 p ∧ top p ∧ nv B32 p = d ∧ p.length ≤ 2 := by
  have hB : B64 = 18446744073709551616 := rfl
  have hB2 : B32 = 4294967296 := rfl
  obtain ⟨m, m1, m2, m3, m4⟩ := btrim_ok (l := [((d % 4294967296 : Nat) : Int), ((d / 4294967296 : Nat) : Int)]) (by simp) (k := k) (by simp; omega)
  have ho : okl B32 [((d % 4294967296 : Nat) : Int), ((d / 4294967296 : Nat) : Int)] := okl_cons.2 ⟨⟨by omega, by omega⟩, okl_cons.2 ⟨⟨by omega, by omega⟩, okl_nil _⟩⟩
  refine ⟨_, ?_, okl_take ho m, m3, ?_, by rw [List.length_take]; simp; omega⟩
  · unfold numeralref13_Small.f
    rw [tmodH, tdivH, wrapu_id (n := ((d / 4294967296 : Nat) : Int)) (by omega) (by omega), bind_eqh m2]
  · rw [m4]; simp only [nv, Int.toNat_natCast]; rw [hB2]; omega
theorem bcmp_l0 {B : Nat} (hB : 0 < B) {a b : List Int} (ha : okl B a) (hb : okl B b) (hlen : a.length = b.length) (hl : a.length < 1000000000000000) : ∀ (n k : Nat), n ≤ a.length → n + 1 ≤ k → numeralref13_Cmp.l0 k a b ((n : Int) - 1) = some (cmpn (nv B (a.take n)) (nv B (b.take n)))
  | 0, k + 1, hn, hk => by rw [numeralref13_Cmp.l0, if_neg (by omega)]; rfl
  | n + 1, k + 1, hn, hk => by
    obtain ⟨x, hx, hxB, hxn⟩ := dig_at ha hB n
    obtain ⟨y, hy, hyB, hyn⟩ := dig_at hb hB n
    obtain ⟨c1, c2, c3⟩ := cmp_step hB ha hb n hxn hyn (by omega) (by omega)
    rw [numeralref13_Cmp.l0, show ((n + 1 : Nat) : Int) - 1 = (n : Int) by omega, if_pos (by omega), if_pos (by omega), if_pos (by omega), if_pos (by omega), hx, hy]
    by_cases h1 : x < y
    · rw [if_pos (by omega)]; unfold cmpn; rw [if_pos (c1 h1)]
    · rw [if_neg (by omega)]
      by_cases h2 : y < x
      · have := c2 h2
        rw [if_pos (by omega)]; unfold cmpn; rw [if_neg (by omega), if_pos this]
      · rw [if_neg (by omega), wrapi_id (n := (n : Int) - 1) (by omega) (by omega), bcmp_l0 hB ha hb hlen hl n k (by omega) (by omega), c3 (by omega)]
theorem bcmp_ok {B : Nat} (hB : 1 < B) {a b : List Int} (ha : okl B a) (hb : okl B b) (ta : top a) (tb : top b) (hl : a.length < 100000000000000) (hl2 : b.length < 100000000000000) {k : Nat} (hk : a.length + 2 ≤ k) : numeralref13_Cmp.f k a b = some (cmpn (nv B a) (nv B b)) := by
  unfold numeralref13_Cmp.f
  by_cases h1 : a.length < b.length
  · have := len_lt hB ha hb tb h1
    rw [if_pos (by omega)]
    unfold cmpn; rw [if_pos this]
  · rw [if_neg (by omega)]
    by_cases h2 : a.length > b.length
    · have := len_lt hB hb ha ta h2
      rw [if_pos (by omega)]
      unfold cmpn; rw [if_neg (by omega), if_pos this]
    · have hc := bcmp_l0 (by omega : 0 < B) ha hb (by omega) (by omega) a.length k (Nat.le_refl _) (by omega)
      rw [List.take_of_length_le (Nat.le_refl _), List.take_of_length_le (by omega)] at hc
      rw [if_neg (by omega), wrapi_id (by omega) (by omega)]
      exact hc
/-! ### Add, sub, Shl -/
theorem badd_l0 {a b : List Int} (ha : okl B32 a) (hb : okl B32 b) (hla : a.length ≤ 500) (hlb : b.length ≤ 500) : ∀ (n k i c : Nat) (acc : List Int), i + n = max a.length b.length → 2 * n + 600 ≤ k → okl B32 acc → acc.length = i → c ≤ 1 →
    nv B32 acc + B32 ^ i * c = nv B32 (a.take i) + nv B32 (b.take i) →
    ∃ p, numeralref13_Add.l0 k a b acc (c : Int) (i : Int) = some p ∧ okl B32 p ∧ top p ∧ nv B32 p = nv B32 a + nv B32 b ∧ p.length ≤ 501 := by
  intro n
  induction n with
  | zero =>
    intro k i c acc hi hk ho hlen hc hv
    obtain ⟨k, rfl⟩ : ∃ q, k = q + 1 + 1 := ⟨k - 2, by omega⟩
    have hoc : okl B32 (acc ++ [(c : Int)]) := by
      rw [okl_append]
      refine ⟨ho, okl_cons.2 ⟨⟨by omega, ?_⟩, okl_nil _⟩⟩
      show _ < ((4294967296 : Nat) : Int); omega
    obtain ⟨m, m1, m2, m3, m4⟩ := btrim_ok (l := acc ++ [(c : Int)]) (by simp; omega) (k := k) (by simp; omega)
    refine ⟨_, ?_, okl_take hoc m, m3, ?_, by rw [List.length_take]; simp; omega⟩
    · rw [numeralref13_Add.l0, if_neg (by omega), decide_eq_false (by omega), numeralref13_Add.j1, if_neg (by decide), if_pos (by omega), bind_eqh m2]
    · rw [m4, nv_snoc, Int.toNat_natCast, hlen, hv, List.take_of_length_le (by omega), List.take_of_length_le (by omega)]
  | succ n ih =>
    intro k i c acc hi hk ho hlen hc hv
    obtain ⟨k, rfl⟩ : ∃ q, k = q + 1 + 1 := ⟨k - 2, by omega⟩
    obtain ⟨x, hx, hxB, hxn⟩ := dig_at ha b32_pos i
    obtain ⟨y, hy, hyB, hyn⟩ := dig_at hb b32_pos i
    have hxB' : x < 4294967296 := hxB
    have hyB' : y < 4294967296 := hyB
    have hc' : (x + y + c) / B32 ≤ 1 := by
      have h1 : x + y + c < 2 * B32 := by omega
      have := (Nat.div_lt_iff_lt_mul b32_pos).2 h1
      omega
    have hoc : okl B32 (acc ++ [(((x + y + c) % B32 : Nat) : Int)]) := by
      rw [okl_append]
      have := Nat.mod_lt (x + y + c) b32_pos
      exact ⟨ho, okl_cons.2 ⟨⟨by omega, by omega⟩, okl_nil _⟩⟩
    have hstep := add_step (P := B32 ^ i) (B := B32) (x := x) (y := y) (d := (x + y + c) % B32) (c' := (x + y + c) / B32) hv (Nat.mod_add_div (x + y + c) B32)
    have hv2 : nv B32 (acc ++ [(((x + y + c) % B32 : Nat) : Int)]) + B32 ^ (i + 1) * ((x + y + c) / B32) = nv B32 (a.take (i + 1)) + nv B32 (b.take (i + 1)) := by
      rw [nv_snoc, nv_take_step, nv_take_step, hxn, hyn, Int.toNat_natCast, Nat.pow_succ, hlen]
      omega
    obtain ⟨p, p1, p2⟩ := ih k (i + 1) ((x + y + c) / B32) _ (by omega) (by omega) hoc (by simp [hlen]) hc' hv2
    refine ⟨p, ?_, p2⟩
    have e1 : Int.tmod ((x + y + c : Nat) : Int) 4294967296 = (((x + y + c) % B32 : Nat) : Int) := tmodH _
    have e2 : IntKind.u64.wrap (Int.tdiv ((x + y + c : Nat) : Int) 4294967296) = (((x + y + c) / B32 : Nat) : Int) := by
      rw [tdivH, wrapu_id (by omega) (by omega)]; rfl
    have hx0 : ¬ i < a.length → x = 0 := by
      intro h
      have : a.getD i 0 = 0 := by simp [List.getD, h]
      rw [this] at hxn; exact hxn.symm
    have hy0 : ¬ i < b.length → y = 0 := by
      intro h
      have : b.getD i 0 = 0 := by simp [List.getD, h]
      rw [this] at hyn; exact hyn.symm
    have hj : numeralref13_Add.l0 (k + 1 + 1) a b acc (c : Int) (i : Int) = numeralref13_Add.j1 (k + 1) a b acc (c : Int) (i : Int) true := by
      rw [numeralref13_Add.l0]
      by_cases h : i < a.length
      · rw [if_pos (by omega)]
      · rw [if_neg (by omega), decide_eq_true (by omega)]
    rw [hj, numeralref13_Add.j1, if_pos rfl, hx, hy, wrapu_id (n := (c : Int) + (x : Int)) (by omega) (by omega), wrapu_id (n := (c : Int) + (y : Int)) (by omega) (by omega), wrapu_id (n := (c : Int) + (x : Int) + (y : Int)) (by omega) (by omega), wrapi_id (n := (i : Int) + 1) (by omega) (by omega), show (i : Int) + 1 = ((i + 1 : Nat) : Int) by omega]
    by_cases ha2 : i < a.length
    · rw [if_pos (by omega), if_pos (by omega)]
      by_cases hb2 : i < b.length
      · rw [if_pos (by omega), if_pos (by omega), show (c : Int) + (x : Int) + (y : Int) = ((x + y + c : Nat) : Int) by omega, e1, e2]
        exact p1
      · have := hy0 hb2
        rw [if_neg (by omega), if_pos (by omega), show (c : Int) + (x : Int) = ((x + y + c : Nat) : Int) by omega, e1, e2]
        exact p1
    · have := hx0 ha2
      rw [if_neg (by omega), if_pos (by omega), if_pos (by omega), if_pos (by omega), show (c : Int) + (y : Int) = ((x + y + c : Nat) : Int) by omega, e1, e2]
      exact p1
theorem badd_ok {a b : List Int} (ha : okl B32 a) (hb : okl B32 b) (hla : a.length ≤ 500) (hlb : b.length ≤ 500) {k : Nat} (hk : 2000 ≤ k) :
    ∃ p, numeralref13_Add.f k a b = some p ∧ okl B32 p ∧ top p ∧ nv B32 p = nv B32 a + nv B32 b ∧ p.length ≤ 501 :=
  badd_l0 ha hb hla hlb (max a.length b.length) k 0 0 [] (by omega) (by omega) (okl_nil _) rfl (by omega) (by simp [nv])
theorem bsub_l0 {a b : List Int} (ha : okl B32 a) (hb : okl B32 b) (hl : a.length ≤ 600) (hba : b.length ≤ a.length) (hge : nv B32 b ≤ nv B32 a) : ∀ (n k i c : Nat) (acc : List Int), i + n = a.length → n + 700 ≤ k → okl B32 acc → acc.length = i → c ≤ 1 →
    nv B32 acc + nv B32 (b.take i) = nv B32 (a.take i) + B32 ^ i * c →
    ∃ p, numeralref13_sub.l0 k a b acc (c : Int) (i : Int) = some p ∧ okl B32 p ∧ top p ∧ nv B32 p + nv B32 b = nv B32 a ∧ p.length ≤ a.length := by
  intro n
  induction n with
  | zero =>
    intro k i c acc hi hk ho hlen hc hv
    obtain ⟨k, rfl⟩ : ∃ q, k = q + 1 := ⟨k - 1, by omega⟩
    obtain ⟨m, m1, m2, m3, m4⟩ := btrim_ok (l := acc) (by omega) (k := k) (by omega)
    refine ⟨_, ?_, okl_take ho m, m3, ?_, by rw [List.length_take]; omega⟩
    · rw [numeralref13_sub.l0, if_neg (by omega), bind_eqh m2]
    · have hlt := nv_lt b32_pos ho
      rw [List.take_of_length_le (by omega), List.take_of_length_le (by omega), show i = a.length by omega] at hv
      rw [hlen, show i = a.length by omega] at hlt
      rw [m4]
      rcases (by omega : c = 0 ∨ c = 1) with rfl | rfl
      · omega
      · rw [Nat.mul_one] at hv; omega
  | succ n ih =>
    intro k i c acc hi hk ho hlen hc hv
    obtain ⟨k, rfl⟩ : ∃ q, k = q + 1 := ⟨k - 1, by omega⟩
    obtain ⟨x, hx, hxB, hxn⟩ := dig_at ha b32_pos i
    obtain ⟨y, hy, hyB, hyn⟩ := dig_at hb b32_pos i
    have hxB' : x < 4294967296 := hxB
    have hyB' : y < 4294967296 := hyB
    have hB32 : B32 = 4294967296 := rfl
    have hmod := Nat.mod_lt (x + B32 - y - c) b32_pos
    have hc' : (if x < y + c then 1 else 0) ≤ 1 := by split <;> omega
    have hoc : okl B32 (acc ++ [(((x + B32 - y - c) % B32 : Nat) : Int)]) := by
      rw [okl_append]
      exact ⟨ho, okl_cons.2 ⟨⟨by omega, by omega⟩, okl_nil _⟩⟩
    have hstep := sub_step (P := B32 ^ i) (B := B32) (x := x) (y := y) (d := (x + B32 - y - c) % B32) (w' := (if x < y + c then 1 else 0)) hv (borrow_eq hxB hyB hc)
    have hv2 : nv B32 (acc ++ [(((x + B32 - y - c) % B32 : Nat) : Int)]) + nv B32 (b.take (i + 1)) = nv B32 (a.take (i + 1)) + B32 ^ (i + 1) * (if x < y + c then 1 else 0) := by
      rw [nv_snoc, nv_take_step, nv_take_step, hxn, hyn, Int.toNat_natCast, Nat.pow_succ, hlen]
      omega
    obtain ⟨p, p1, p2⟩ := ih k (i + 1) (if x < y + c then 1 else 0) _ (by omega) (by omega) hoc (by simp [hlen]) hc' hv2
    refine ⟨p, ?_, p2⟩
    have hy0 : ¬ i < b.length → y = 0 := by
      intro h
      have : b.getD i 0 = 0 := by simp [List.getD, h]
      rw [this] at hyn; exact hyn.symm
    rw [numeralref13_sub.l0, if_pos (by omega), hx, hy, wrapu_id (n := (c : Int) + (y : Int)) (by omega) (by omega), wrapu_id (n := (x : Int) + 4294967296) (by omega) (by omega), wrapi_id (n := (i : Int) + 1) (by omega) (by omega), show (i : Int) + 1 = ((i + 1 : Nat) : Int) by omega]
    by_cases hib : i < b.length
    · rw [if_pos (by omega), if_pos (by omega)]
      by_cases g : x < y + c
      · rw [if_pos g] at p1
        rw [if_neg (by omega), if_pos (by omega), wrapu_id (n := (x : Int) + 4294967296 - ((c : Int) + (y : Int))) (by omega) (by omega), show (x : Int) + 4294967296 - ((c : Int) + (y : Int)) = (((x + B32 - y - c) % B32 : Nat) : Int) by rw [hB32]; omega]
        exact p1
      · rw [if_neg g] at p1
        rw [if_pos (by omega), if_pos (by omega), wrapu_id (n := (x : Int) - ((c : Int) + (y : Int))) (by omega) (by omega), show (x : Int) - ((c : Int) + (y : Int)) = (((x + B32 - y - c) % B32 : Nat) : Int) by rw [hB32]; omega]
        exact p1
    · have hyy := hy0 hib
      subst hyy
      rw [if_neg (by omega), if_pos (by omega)]
      by_cases g : x < 0 + c
      · rw [if_pos g] at p1
        rw [if_neg (by omega), if_pos (by omega), wrapu_id (n := (x : Int) + 4294967296 - (c : Int)) (by omega) (by omega), show (x : Int) + 4294967296 - (c : Int) = (((x + B32 - 0 - c) % B32 : Nat) : Int) by rw [hB32]; omega]
        exact p1
      · rw [if_neg g] at p1
        rw [if_pos (by omega), if_pos (by omega), wrapu_id (n := (x : Int) - (c : Int)) (by omega) (by omega), show (x : Int) - (c : Int) = (((x + B32 - 0 - c) % B32 : Nat) : Int) by rw [hB32]; omega]
        exact p1
theorem bsub_ok {a b : List Int} (ha : okl B32 a) (hb : okl B32 b) (hl : a.length ≤ 600) (tb : top b) (hge : nv B32 b ≤ nv B32 a) {k : Nat} (hk : 2000 ≤ k) :
    ∃ p, numeralref13_sub.f k a b = some p ∧ okl B32 p ∧ top p ∧ nv B32 p + nv B32 b = nv B32 a ∧ p.length ≤ a.length :=
  bsub_l0 ha hb hl (len_le_of_nv b32_one ha hb tb hge) hge a.length k 0 0 [] (by omega) (by omega) (okl_nil _) rfl (by omega) (by simp [nv])
theorem bshl_l0 {p : List Int} (ho : okl B32 p) (hl : p.length ≤ 600) {n : Nat} (hn : n ≤ 10000) : ∀ (m k i c : Nat) (acc : List Int), i + m = p.length → m + 2000 ≤ k → okl B32 acc → acc.length = n / 32 + i → c < 2 ^ (n % 32) → nv B32 acc + B32 ^ acc.length * c = 2 ^ n * nv B32 (p.take i) →
    ∃ q, numeralref13_Shl.l0 k p acc ((2 ^ (n % 32) : Nat) : Int) (c : Int) (i : Int) = some q ∧ okl B32 q ∧ top q ∧ nv B32 q = 2 ^ n * nv B32 p ∧ q.length ≤ n / 32 + p.length + 1 := by
  intro m
  induction m with
  | zero =>
    intro k i c acc hi hk ha hlen hc hv
    obtain ⟨k, rfl⟩ : ∃ q, k = q + 1 := ⟨k - 1, by omega⟩
    have hr : 2 ^ (n % 32) ≤ 2 ^ 31 := Nat.pow_le_pow_right (by decide) (by omega)
    have hoc : okl B32 (acc ++ [(c : Int)]) := by
      rw [okl_append]
      refine ⟨ha, okl_cons.2 ⟨⟨by omega, ?_⟩, okl_nil _⟩⟩
      show _ < ((4294967296 : Nat) : Int); omega
    obtain ⟨t, m1, m2, m3, m4⟩ := btrim_ok (l := acc ++ [(c : Int)]) (by simp; omega) (k := k) (by simp; omega)
    refine ⟨_, ?_, okl_take hoc t, m3, ?_, by rw [List.length_take]; simp; omega⟩
    · rw [numeralref13_Shl.l0, if_neg (by omega), if_pos (by omega), bind_eqh m2]
    · rw [m4, nv_snoc, Int.toNat_natCast, hv, List.take_of_length_le (by omega)]
  | succ m ih =>
    intro k i c acc hi hk ha hlen hc hv
    obtain ⟨k, rfl⟩ : ∃ q, k = q + 1 := ⟨k - 1, by omega⟩
    obtain ⟨x, hx, hxB, hxn⟩ := dig_at ho b32_pos i
    have hxB' : x < 4294967296 := hxB
    have hr : 2 ^ (n % 32) ≤ 2 ^ 31 := Nat.pow_le_pow_right (by decide) (by omega)
    have hpos := Nat.two_pow_pos (n % 32)
    have hfit : x * 2 ^ (n % 32) + c < 2 ^ (n % 32) * 4294967296 := by
      have := Nat.mul_le_mul_right (2 ^ (n % 32)) (show x + 1 ≤ 4294967296 from hxB')
      rw [Nat.add_mul, Nat.one_mul, Nat.mul_comm 4294967296] at this
      omega
    have h64 : x * 2 ^ (n % 32) + c < 18446744073709551616 := by
      have := Nat.mul_le_mul_right 4294967296 hr
      omega
    have hxs : (x : Int) * ((2 ^ (n % 32) : Nat) : Int) = ((x * 2 ^ (n % 32) : Nat) : Int) := (Int.natCast_mul _ _).symm
    have hw1 : IntKind.u64.wrap ((x : Int) * ((2 ^ (n % 32) : Nat) : Int)) = ((x * 2 ^ (n % 32) : Nat) : Int) := by rw [hxs, wrapu_id (by omega) (by omega)]
    have hw2 : IntKind.u64.wrap (((x * 2 ^ (n % 32) : Nat) : Int) + (c : Int)) = ((x * 2 ^ (n % 32) + c : Nat) : Int) := by rw [wrapu_id (by omega) (by omega)]; omega
    generalize hv0 : x * 2 ^ (n % 32) + c = v at *
    have hc' : v / B32 < 2 ^ (n % 32) := (Nat.div_lt_iff_lt_mul b32_pos).2 hfit
    have hoc : okl B32 (acc ++ [((v % B32 : Nat) : Int)]) := by
      rw [okl_append]
      have := Nat.mod_lt v b32_pos
      exact ⟨ha, okl_cons.2 ⟨⟨by omega, by omega⟩, okl_nil _⟩⟩
    have hv2 : nv B32 (acc ++ [((v % B32 : Nat) : Int)]) + B32 ^ (acc ++ [((v % B32 : Nat) : Int)]).length * (v / B32) = 2 ^ n * nv B32 (p.take (i + 1)) := by
      have hp : B32 ^ acc.length * 2 ^ (n % 32) = 2 ^ n * B32 ^ i := by
        rw [hlen]
        have e : B32 = 2 ^ 32 := rfl
        rw [e, ← Nat.pow_mul, ← Nat.pow_mul, ← Nat.pow_add, ← Nat.pow_add]
        congr 1
        have := Nat.div_add_mod n 32
        omega
      have hs := add_step (P := B32 ^ acc.length) (B := B32) (x := x * 2 ^ (n % 32)) (y := 0) (d := v % B32) (c' := v / B32) hv (by rw [Nat.mod_add_div, Nat.add_zero]; exact hv0.symm)
      have hq : B32 ^ acc.length * (x * 2 ^ (n % 32)) = 2 ^ n * (B32 ^ i * x) := by
        rw [Nat.mul_comm x, ← Nat.mul_assoc, hp, Nat.mul_assoc]
      rw [nv_snoc, Int.toNat_natCast, List.length_append, List.length_singleton, Nat.pow_succ, hs, hq, nv_take_step, hxn, Nat.mul_add, Nat.mul_zero, Nat.add_zero]
    obtain ⟨q, q1, q2⟩ := ih k (i + 1) (v / B32) _ (by omega) (by omega) hoc (by simp [hlen]; omega) hc' hv2
    refine ⟨q, ?_, q2⟩
    have e1 : Int.tmod (v : Int) 4294967296 = ((v % B32 : Nat) : Int) := tmodH v
    have e2 : IntKind.u64.wrap (Int.tdiv (v : Int) 4294967296) = ((v / B32 : Nat) : Int) := by rw [tdivH, wrapu_id (by omega) (by omega)]; rfl
    rw [numeralref13_Shl.l0, if_pos (by omega), if_pos (by omega), if_pos (by omega), hx, hw1, hw2, e1, e2, wrapi_id (n := (i : Int) + 1) (by omega) (by omega)]
    exact q1
theorem bshl_ok {p : List Int} (ho : okl B32 p) (hl : p.length ≤ 600) {n : Nat} (hn : n ≤ 10000) {k : Nat} (hk : 3000 ≤ k) :
    ∃ q, numeralref13_Shl.f k p (n : Int) = some q ∧ okl B32 q ∧ top q ∧ nv B32 q = 2 ^ n * nv B32 p ∧ q.length ≤ n / 32 + p.length + 1 := by
  obtain ⟨q, q1, q2⟩ := bshl_l0 ho hl hn p.length k 0 0 (List.replicate (n / 32) 0) (by omega) (by omega) (okl_zeros _ _ b32_pos) (by simp) (Nat.two_pow_pos _) (by rw [nv_zeros]; simp [nv])
  refine ⟨q, ?_, q2⟩
  unfold numeralref13_Shl.f
  rw [tdiv32, tmod32, wrapi_id (n := ((n / 32 : Nat) : Int)) (by omega) (by omega), if_pos (by omega), Int.toNat_natCast, if_pos (by omega), wrapu_id (n := ((n % 32 : Nat) : Int)) (by omega) (by omega), if_pos (by omega), shl1 (n % 32) (by omega)]
  exact q1
/-! ### bits -/
theorem wbit {a : List Int} (ho : okl B32 a) (i : Nat) : Go.bits .and .u64 (shr .u64 (rd a ((i / 32 : Nat) : Int)) ((i % 32 : Nat) : Int)) 1 = ((nv B32 a / 2 ^ i % 2 : Nat) : Int) := by
  obtain ⟨x, hx, hxB, hxn⟩ := dig_at ho b32_pos (i / 32)
  have hxB' : x < 4294967296 := hxB
  have h2 : x / 2 ^ (i % 32) < 18446744073709551616 := Nat.lt_of_le_of_lt (Nat.div_le_self _ _) (by omega)
  have h3 := and_mask (x / 2 ^ (i % 32)) 1 h2 (by omega)
  rw [show ((2 ^ 1 - 1 : Nat) : Int) = 1 from rfl, Nat.pow_one] at h3
  rw [hx, shr_u x (i % 32) (by omega), h3]
  congr 1
  rw [dig_val b32_pos ho] at hxn
  rw [← hxn, pow_split32 i, ← Nat.div_div_eq_div_mul]
  generalize nv B32 a / B32 ^ (i / 32) = V
  obtain ⟨r, hr⟩ : ∃ r, r = i % 32 := ⟨_, rfl⟩
  have hr32 : r < 32 := by omega
  rw [← hr]
  have e : B32 = 2 ^ r * 2 ^ (32 - r) := by rw [← Nat.pow_add, show r + (32 - r) = 32 by omega]; rfl
  rw [e, Nat.mod_mul_right_div_self, Nat.mod_mod_of_dvd]
  exact ⟨2 ^ (32 - r - 1), by conv => lhs; rw [show 32 - r = (32 - r - 1) + 1 by omega, Nat.pow_succ']⟩
theorem bbits_l0 {a : List Int} (ho : okl B32 a) (hl : a.length ≤ 1000) : ∀ (n k : Nat), n ≤ 32 * a.length → n + 1 ≤ k → nv B32 a < 2 ^ n → ∃ L : Nat, numeralref13_Bits.l0 k a (n : Int) = some (L : Int) ∧ bl (nv B32 a) L ∧ L ≤ n
  | 0, k + 1, hn, hk, hv => by
    refine ⟨0, by rw [numeralref13_Bits.l0, if_neg (by omega)], ?_, Nat.le_refl _⟩
    rw [Nat.pow_zero] at hv
    exact ⟨by rw [Nat.pow_zero]; exact hv, fun h => by omega, fun _ => rfl⟩
  | n + 1, k + 1, hn, hk, hv => by
    rw [numeralref13_Bits.l0, if_pos (by omega), wrapi_id (n := ((n + 1 : Nat) : Int) - 1) (by omega) (by omega), show ((n + 1 : Nat) : Int) - 1 = (n : Int) by omega, tdiv32, tmod32, wrapi_id (n := ((n / 32 : Nat) : Int)) (by omega) (by omega), if_pos (by omega), if_pos (by omega), wrapu_id (n := ((n % 32 : Nat) : Int)) (by omega) (by omega), if_pos (by omega), wbit ho n]
    have hp := Nat.two_pow_pos n
    have hs : 2 ^ (n + 1) = 2 ^ n * 2 := Nat.pow_succ ..
    have hdm := Nat.div_add_mod (nv B32 a) (2 ^ n)
    have hdl : nv B32 a / 2 ^ n < 2 := by rw [Nat.div_lt_iff_lt_mul hp]; omega
    have hml := Nat.mod_lt (nv B32 a) hp
    have hz : nv B32 a = 0 → nv B32 a / 2 ^ n = 0 := fun h0 => by rw [h0, Nat.zero_div]
    generalize nv B32 a / 2 ^ n = D at *
    generalize nv B32 a % 2 ^ n = R at *
    by_cases h : D % 2 = 0
    · have h0 : D = 0 := by omega
      rw [h0, Nat.mul_zero, Nat.zero_add] at hdm
      have hlt : nv B32 a < 2 ^ n := by omega
      obtain ⟨L, l1, l2, l3⟩ := bbits_l0 ho hl n k (by omega) (by omega) hlt
      exact ⟨L, by rw [if_pos (by omega)]; exact l1, l2, by omega⟩
    · have h1 : D = 1 := by omega
      rw [h1, Nat.mul_one] at hdm
      refine ⟨n + 1, by rw [if_neg (by omega)], ⟨hv, fun _ => ⟨by omega, ?_⟩, fun h0 => ?_⟩, Nat.le_refl _⟩
      · rw [show n + 1 - 1 = n by omega]; omega
      · have := hz h0; omega
theorem bbits_ok {a : List Int} (ho : okl B32 a) (hl : a.length ≤ 1000) {k : Nat} (hk : 33000 ≤ k) : ∃ L : Nat, numeralref13_Bits.f k a = some (L : Int) ∧ bl (nv B32 a) L ∧ L ≤ 32 * a.length := by
  unfold numeralref13_Bits.f
  rw [wrapi_id (by omega) (by omega), show 32 * (a.length : Int) = ((32 * a.length : Nat) : Int) by omega]
  refine bbits_l0 ho hl _ k (Nat.le_refl _) (by omega) ?_
  have h1 := nv_lt b32_pos ho
  have e : B32 = 2 ^ 32 := rfl
  rw [e, ← Nat.pow_mul] at h1
  exact h1
theorem bbit_ok {a : List Int} (ho : okl B32 a) (hl : a.length ≤ 1000) {i : Nat} (hi : i < 32 * a.length) : numeralref13_bit.f a (i : Int) = some ((nv B32 a / 2 ^ i % 2 : Nat) : Int) := by
  unfold numeralref13_bit.f
  rw [tdiv32, tmod32, wrapi_id (n := ((i / 32 : Nat) : Int)) (by omega) (by omega), if_pos (by omega), if_pos (by omega), wrapu_id (n := ((i % 32 : Nat) : Int)) (by omega) (by omega), if_pos (by omega), wbit ho i]
/-- The bit i set, where the lowest bits up to it are 0. -/
theorem set_bit64 {q : List Int} (ho : okl B32 q) {i : Nat} (hi : i / 32 < q.length) (hz : nv B32 q % 2 ^ (i + 1) = 0) :
    ∃ w : Nat, rd q ((i / 32 : Nat) : Int) = (w : Int) ∧ Go.bits .or .u64 (w : Int) ((2 ^ (i % 32) : Nat) : Int) = ((w + 2 ^ (i % 32) : Nat) : Int) ∧ okl B32 (q.set (i / 32) ((w + 2 ^ (i % 32) : Nat) : Int)) ∧ nv B32 (q.set (i / 32) ((w + 2 ^ (i % 32) : Nat) : Int)) = nv B32 q + 2 ^ i := by
  obtain ⟨w, hw, hwB, hwn⟩ := dig_at ho b32_pos (i / 32)
  have hwB' : w < 4294967296 := hwB
  have hr : i % 32 + 1 ≤ 32 := by omega
  have e32 : B32 = 2 ^ 32 := rfl
  have hpow : B32 ^ (i / 32) = 2 ^ (32 * (i / 32)) := by rw [e32, ← Nat.pow_mul]
  have hsplit : 2 ^ (i + 1) = 2 ^ (i % 32 + 1) * 2 ^ (32 * (i / 32)) := by rw [← Nat.pow_add]; congr 1; omega
  obtain ⟨t, ht⟩ : ∃ t, nv B32 q = 2 ^ (i + 1) * t := ⟨nv B32 q / 2 ^ (i + 1), by have := Nat.div_add_mod (nv B32 q) (2 ^ (i + 1)); omega⟩
  have hval := dig_val b32_pos ho (i / 32)
  rw [hwn, ht, hpow, hsplit, Nat.mul_right_comm, Nat.mul_div_cancel _ (Nat.two_pow_pos _)] at hval
  have hw0 : w % 2 ^ (i % 32 + 1) = 0 := by
    rw [hval, e32, Nat.mod_mod_of_dvd _ (Nat.pow_dvd_pow 2 hr), Nat.mul_mod_right]
  obtain ⟨s, hs⟩ : ∃ s, w = 2 ^ (i % 32 + 1) * s := ⟨w / 2 ^ (i % 32 + 1), by have := Nat.div_add_mod w (2 ^ (i % 32 + 1)); omega⟩
  have hlt : 2 ^ (i % 32) < 2 ^ (i % 32 + 1) := Nat.pow_lt_pow_right (by decide) (by omega)
  have hor : w ||| 2 ^ (i % 32) = w + 2 ^ (i % 32) := by rw [hs, Nat.two_pow_add_eq_or_of_lt hlt]
  have h32 : 2 ^ (i % 32) < 4294967296 := by
    have : 2 ^ (i % 32) ≤ 2 ^ 31 := Nat.pow_le_pow_right (by decide) (by omega)
    omega
  have hfit : w + 2 ^ (i % 32) < 4294967296 := by
    rw [← hor]; exact Nat.or_lt_two_pow (n := 32) hwB' h32
  refine ⟨w, hw, by rw [or_u w _ (by omega) (by omega), hor], okl_set ho _ ⟨by omega, by show _ < ((4294967296 : Nat) : Int); omega⟩, ?_⟩
  have h1 := nv_set B32 (l := q) (i := i / 32) ((w + 2 ^ (i % 32) : Nat) : Int) hi
  rw [hwn, Int.toNat_natCast, Nat.mul_add] at h1
  have h2 : B32 ^ (i / 32) * 2 ^ (i % 32) = 2 ^ i := by rw [hpow, ← Nat.pow_add]; congr 1; omega
  omega
/-! ### Div -/
theorem bdiv_l0 {a b : List Int} (ha : okl B32 a) (hb : okl B32 b) (tb : top b) (la : a.length ≤ 490) (lb : b.length ≤ 490) (h0 : 0 < nv B32 b) : ∀ (j k : Nat) (q r : List Int), j ≤ 32 * a.length → 2 * j + 4000 ≤ k → okl B32 q → q.length = a.length → nv B32 q % 2 ^ j = 0 → okl B32 r → top r → nv B32 r < nv B32 b →
    nv B32 q * nv B32 b + 2 ^ j * nv B32 r + nv B32 a % 2 ^ j = nv B32 a →
    ∃ t r', numeralref13_Div.l0 k a b q r ((j : Int) - 1) = some (t, r') ∧ okl B32 t ∧ top t ∧ okl B32 r' ∧ top r' ∧ nv B32 t * nv B32 b + nv B32 r' = nv B32 a ∧ nv B32 r' < nv B32 b ∧ t.length ≤ a.length
  | 0, k + 1, q, r, hj, hk, hq, hql, hqz, hr, tr, hrb, hv => by
    obtain ⟨m, m1, m2, m3, m4⟩ := btrim_ok (l := q) (by omega) (k := k) (by omega)
    rw [Nat.pow_zero, Nat.mod_one, Nat.one_mul, Nat.add_zero] at hv
    refine ⟨q.take m, r, ?_, okl_take hq m, m3, hr, tr, by rw [m4]; exact hv, hrb, by rw [List.length_take]; omega⟩
    rw [numeralref13_Div.l0, if_neg (by omega), bind_eqh m2]
  | i + 1, k + 2, q, r, hj, hk, hq, hql, hqz, hr, tr, hrb, hv => by
    have hrl := len_le_of_nv b32_one hb hr tr (Nat.le_of_lt hrb)
    obtain ⟨r2, s1, s2, s3, s4, s5⟩ := bshl_ok hr (by omega) (n := 1) (by omega) (k := k + 1) (by omega)
    rw [Nat.pow_one] at s4
    have hbit := bbit_ok ha (by omega) (i := i) (by omega)
    have hmod : nv B32 a % 2 ^ (i + 1) = nv B32 a % 2 ^ i + 2 ^ i * (nv B32 a / 2 ^ i % 2) := Nat.mod_pow_succ
    have hps : 2 ^ (i + 1) = 2 ^ i * 2 := Nat.pow_succ ..
    have hb2 : nv B32 a / 2 ^ i % 2 = 0 ∨ nv B32 a / 2 ^ i % 2 = 1 := by omega
    have hone : okl B32 [1] := okl_cons.2 ⟨⟨by decide, by decide⟩, okl_nil _⟩
    generalize nv B32 a / 2 ^ i % 2 = β at *
    have hr3 : ∃ r3, okl B32 r3 ∧ top r3 ∧ nv B32 r3 = 2 * nv B32 r + β ∧ r3.length ≤ 501 ∧ numeralref13_Div.l0 (k + 2) a b q r (((i + 1 : Nat) : Int) - 1) = numeralref13_Div.j1 (k + 1) a b q r3 (i : Int) := by
      rw [numeralref13_Div.l0, show ((i + 1 : Nat) : Int) - 1 = (i : Int) by omega, if_pos (by omega)]
      rw [show ((1 : Nat) : Int) = 1 from rfl] at s1
      rw [bind_eqh s1, bind_eqh hbit]
      rcases hb2 with hb2 | hb2
      · exact ⟨r2, s2, s3, by omega, by omega, by rw [if_neg (by omega)]⟩
      · obtain ⟨r3, t1, t2, t3, t4, t5⟩ := badd_ok s2 hone (by omega) (by simp) (k := k + 1) (by omega)
        have e1 : nv B32 [1] = 1 := by simp [nv]
        exact ⟨r3, t2, t3, by omega, t5, by rw [if_pos (by omega), bind_eqh t1]⟩
    obtain ⟨r3, u1, u2, u3, u4, u5⟩ := hr3
    have hcmp := bcmp_ok b32_one u1 hb u2 tb (by omega) (by omega) (k := k) (by omega)
    have hqz' : nv B32 q % 2 ^ i = 0 := by
      have h1 : 2 ^ i ∣ 2 ^ (i + 1) := Nat.pow_dvd_pow 2 (by omega)
      rw [← Nat.mod_mod_of_dvd _ h1, hqz, Nat.zero_mod]
    rw [hmod, hps, Nat.mul_assoc] at hv
    rw [u5, numeralref13_Div.j1, bind_eqh hcmp, wrapi_id (n := (i : Int) - 1) (by omega) (by omega)]
    by_cases hge : nv B32 b ≤ nv B32 r3
    · obtain ⟨r4, v1, v2, v3, v4, v5⟩ := bsub_ok u1 hb (by omega) tb hge (k := k) (by omega)
      obtain ⟨w, w1, w2, w3, w4⟩ := set_bit64 hq (i := i) (by omega) hqz
      have hv2 : nv B32 (q.set (i / 32) ((w + 2 ^ (i % 32) : Nat) : Int)) * nv B32 b + 2 ^ i * nv B32 r4 + nv B32 a % 2 ^ i = nv B32 a := by
        have e : 2 ^ i * nv B32 b + 2 ^ i * nv B32 r4 = 2 ^ i * (2 * nv B32 r) + 2 ^ i * β := by
          rw [← Nat.mul_add, ← Nat.mul_add]; congr 1; omega
        rw [w4, Nat.add_mul]; omega
      have hz2 : nv B32 (q.set (i / 32) ((w + 2 ^ (i % 32) : Nat) : Int)) % 2 ^ i = 0 := by
        rw [w4, Nat.add_mod_right]; exact hqz'
      obtain ⟨t, r', o1, o2⟩ := bdiv_l0 ha hb tb la lb h0 i k _ r4 (by omega) (by omega) w3 (by rw [List.length_set]; exact hql) hz2 v2 v3 (by omega) hv2
      refine ⟨t, r', ?_, o2⟩
      rw [if_pos ((cmpn_ge _ _).2 hge), bind_eqh v1, tdiv32, tmod32, wrapi_id (n := ((i / 32 : Nat) : Int)) (by omega) (by omega), if_pos (by omega), if_pos (by omega), wrapu_id (n := ((i % 32 : Nat) : Int)) (by omega) (by omega), if_pos (by omega), Int.toNat_natCast, w1, shl1 (i % 32) (by omega), w2]
      exact o1
    · have hv2 : nv B32 q * nv B32 b + 2 ^ i * nv B32 r3 + nv B32 a % 2 ^ i = nv B32 a := by
        have e : 2 ^ i * nv B32 r3 = 2 ^ i * (2 * nv B32 r) + 2 ^ i * β := by rw [u3, Nat.mul_add]
        omega
      obtain ⟨t, r', o1, o2⟩ := bdiv_l0 ha hb tb la lb h0 i k q r3 (by omega) (by omega) hq hql hqz' u1 u2 (by omega) hv2
      refine ⟨t, r', ?_, o2⟩
      rw [if_neg (fun h => hge ((cmpn_ge _ _).1 h))]
      exact o1
theorem bdiv_ok {a b : List Int} (ha : okl B32 a) (hb : okl B32 b) (ta : top a) (tb : top b) (la : a.length ≤ 490) (lb : b.length ≤ 490) (h0 : 0 < nv B32 b) {k : Nat} (hk : 50000 ≤ k) :
    ∃ t r, numeralref13_Div.f k a b = some (t, r) ∧ okl B32 t ∧ top t ∧ okl B32 r ∧ top r ∧ nv B32 t * nv B32 b + nv B32 r = nv B32 a ∧ nv B32 r < nv B32 b ∧ t.length ≤ a.length := by
  obtain ⟨L, l1, l2, l3⟩ := bbits_ok ha (by omega) (k := k) (by omega)
  unfold numeralref13_Div.f
  rw [if_pos (by omega), Int.toNat_natCast, if_pos (by omega), bind_eqh l1, wrapi_id (n := (L : Int) - 1) (by omega) (by omega)]
  exact bdiv_l0 ha hb tb la lb h0 L k _ [] l3 (by omega) (okl_zeros _ _ b32_pos) (by simp) (by rw [nv_zeros, Nat.zero_mod]) (okl_nil _) top_nil (by simp [nv]; exact h0) (by rw [nv_zeros, Nat.mod_eq_of_lt l2.1]; simp [nv])
end Go.Proofs.YtbnmchaldolpfaaDoor.XoH
end
section
namespace Go.Proofs.YtbnmchaldolpfaaDoor.XoB
open Go.RowKit Go.Proofs.YtbnmchaldolpfaaDoor.Xo Go.Proofs.YtbnmchaldolpfaaDoor.A Go.Proofs.YtbnmchaldolpfaaDoor.L Go.Proofs.YtbnmchaldolpfaaDoor.Q Go.Proofs.YtbnmchaldolpfaaDoor.XoH Go.Proofs.YtbnmchaldolpfaaDoorW.PrintWords Go.Proofs.YtbnmchaldolpfaaDoorW.PrintLast
set_option linter.unusedSimpArgs false
set_option linter.unusedVariables false
theorem rPack_bits {size F E S : Nat} {L : Int} {I : Nat} (h : IsFmt size F E S L I) {Q : Nat} {last : Int} (hQ0 : 0 < Q) (hQ : Q ≤ 2 ^ (F + 1)) (hL : L ≤ last) (hn : 2 ^ F ≤ Q ∨ last = L) (k : Nat) :
    numeralref11_Pack.f (k + 200) false 2 (Q : Int) last size = some (if I ≤ (last - L).toNat * 2 ^ F + Q then (0, 4) else ((((last - L).toNat * 2 ^ F + Q : Nat) : Int), 0)) := by
  obtain ⟨hF0, hF, hS, hFS, hLL, _, hF23⟩ := fmt_small h
  have h64 : 2 ^ (F + 1) ≤ 2 ^ 63 := Nat.pow_le_pow_right (by decide) (by omega)
  obtain ⟨r, r1, r2⟩ := Pack_both h hQ0 (by omega) last false k
  have hp := Pack_bits h hQ0 hQ hL hn false k
  rw [r1] at hp
  rw [r2]
  have hp := Option.some.inj hp
  unfold outb at hp
  obtain ⟨r1', r2'⟩ := r
  by_cases g : I ≤ (last - L).toNat * 2 ^ F + Q
  · rw [if_pos g] at hp ⊢
    injection hp with a1 a2
    unfold errv at a2
    by_cases c : r2' = 0
    · simp [c] at a2
    · simp [c] at a2
      simp only at a1
      rw [a1, a2]
  · rw [if_neg g] at hp ⊢
    injection hp with a1 a2
    unfold errv at a2
    by_cases c : r2' = 0
    · simp only at a1
      rw [a1, c]; rfl
    · simp [c] at a2
theorem rInf17 {size F E S : Nat} {L : Int} {I : Nat} (h : IsFmt size F E S L I) : numeralref11_Inf.f size = some (I : Int) := by
  unfold numeralref11_Inf.f; rw [bind_eq (rinf_ok h)]
/-- The end of the reference's Nearest, where the mantissa is told as a word. -/
theorem near_end {size F E S : Nat} {L : Int} {I : Nat} (h : IsFmt size F E S L I) (num den : List Int) {q : List Int} {Q : Nat} {last : Int} (hQ : Q ≤ 2 ^ (F + 1)) (hn : 2 ^ F ≤ Q ∨ last = L) (hL : L ≤ last) (k : Nat) :
    numeralref13_Nearest.l1 (k + 201) num den size last q (Q : Int) (-1) = some ((nr I ((last - L).toNat * 2 ^ F + Q)).1, (nr I ((last - L).toNat * 2 ^ F + Q)).2, num, den) := by
  obtain ⟨hI0, hI1, _⟩ := fmt_I h
  rw [show k + 201 = (k + 200) + 1 by omega, numeralref13_Nearest.l1, if_neg (by omega)]
  by_cases h0 : Q = 0
  · subst h0
    have hl : last = L := by
      rcases hn with g | g
      · have := Nat.two_pow_pos F; omega
      · exact g
    subst hl
    rw [if_pos (by rfl), show (last - last).toNat = 0 by omega, Nat.zero_mul, Nat.add_zero]
    unfold nr; rw [if_neg (by omega)]; rfl
  · rw [if_neg (by omega), bind_eq (rPack_bits h (by omega) hQ hL hn k)]
    unfold nr
    by_cases g : I ≤ (last - L).toNat * 2 ^ F + Q
    · rw [if_pos g, if_pos g, if_neg (by decide), bind_eq (rInf17 h)]
    · rw [if_neg g, if_neg g, if_pos (by rfl)]
theorem near_j4 {size F E S : Nat} {L : Int} {I : Nat} (h : IsFmt size F E S L I) (num den : List Int) {q : List Int} (ho : okl B32 q) (tq : top q) {last : Int} (hQ : nv B32 q ≤ 2 ^ (F + 1)) (hn : 2 ^ F ≤ nv B32 q ∨ last = L) (hL : L ≤ last) {k : Nat} (hk : 300 ≤ k) :
    numeralref13_Nearest.j4 k num den size last q = some ((nr I ((last - L).toNat * 2 ^ F + nv B32 q)).1, (nr I ((last - L).toNat * 2 ^ F + nv B32 q)).2, num, den) := by
  obtain ⟨hF0, hF, hS, hFS, hLL, _, hF23⟩ := fmt_small h
  obtain ⟨k, rfl⟩ : ∃ j, k = j + 204 := ⟨k - 204, by omega⟩
  have h63 : 2 ^ (F + 1) ≤ 2 ^ 63 := Nat.pow_le_pow_right (by decide) (by omega)
  have h2 : q.length ≤ 2 := by
    refine (top_length b32_one ho tq 2).2 ?_
    have e : B32 ^ 2 = 18446744073709551616 := by decide
    omega
  have u0 : IntKind.u64.wrap (0 * 4294967296) = 0 := by rw [wrapu]; omega
  rw [show k + 204 = (k + 203) + 1 by omega, numeralref13_Nearest.j4]
  match q, ho, h2, hQ, hn with
  | [], _, _, hQ, hn =>
    have w : wrap64 (((([] : List Int).length : Nat) : Int) - 1) = -1 := by unfold wrap64; simp
    rw [w]
    have := near_end h num den (q := []) (Q := 0) (last := last) (by omega) hn hL (k + 2)
    exact this
  | [x], ho, _, hQ, hn =>
    obtain ⟨hx, _⟩ := okl_cons.1 ho
    obtain ⟨x, rfl⟩ := Int.eq_ofNat_of_zero_le hx.1
    have hx2 : x < 4294967296 := by have := hx.2; unfold B32 at this; omega
    have hr : rd [(x : Int)] 0 = (x : Int) := rfl
    have w : wrap64 ((([(x : Int)].length : Nat) : Int) - 1) = 0 := by unfold wrap64; simp
    have w2 : wrap64 (0 - 1) = -1 := by unfold wrap64; omega
    have ho2 := or_u 0 x (by omega) (by omega)
    rw [Nat.zero_or, Int.ofNat_zero] at ho2
    have hnv : nv B32 [(x : Int)] = x := by simp [nv]
    rw [hnv] at hQ hn
    rw [w, show k + 203 = (k + 202) + 1 by omega, numeralref13_Nearest.l1, if_pos (by omega), if_pos (by omega), if_pos (by simp), u0, hr, ho2, w2, hnv]
    exact near_end h num den (q := [(x : Int)]) (Q := x) (last := last) hQ hn hL (k + 1)
  | [x, y], ho, _, hQ, hn =>
    obtain ⟨hx, ho2⟩ := okl_cons.1 ho
    obtain ⟨hy, _⟩ := okl_cons.1 ho2
    obtain ⟨x, rfl⟩ := Int.eq_ofNat_of_zero_le hx.1
    obtain ⟨y, rfl⟩ := Int.eq_ofNat_of_zero_le hy.1
    have hx2 : x < 4294967296 := by have := hx.2; unfold B32 at this; omega
    have hy2 : y < 4294967296 := by have := hy.2; unfold B32 at this; omega
    have hr : rd [(x : Int), (y : Int)] 0 = (x : Int) := rfl
    have hr2 : rd [(x : Int), (y : Int)] 1 = (y : Int) := rfl
    have w : wrap64 ((([(x : Int), (y : Int)].length : Nat) : Int) - 1) = 1 := by unfold wrap64; simp
    have w1 : wrap64 (1 - 1) = 0 := by unfold wrap64; omega
    have w2 : wrap64 (0 - 1) = -1 := by unfold wrap64; omega
    have ho3 := or_u 0 y (by omega) (by omega)
    rw [Nat.zero_or, Int.ofNat_zero] at ho3
    have ho4 := or_disj y x 32 (by omega) (by omega)
    have e32 : IntKind.u64.wrap ((y : Int) * 4294967296) = ((y * 2 ^ 32 : Nat) : Int) := by rw [wrapu_id (by omega) (by omega)]; omega
    have hnv : nv B32 [(x : Int), (y : Int)] = y * 2 ^ 32 + x := by simp [nv]; unfold B32; omega
    rw [hnv] at hQ hn
    rw [w, show k + 203 = (k + 202) + 1 by omega, numeralref13_Nearest.l1, if_pos (by omega), if_pos (by omega), if_pos (by simp), u0, hr2, ho3, w1, show k + 202 = (k + 201) + 1 by omega, numeralref13_Nearest.l1, if_pos (by omega), if_pos (by omega), if_pos (by simp), e32, hr, ho4, w2, hnv]
    exact near_end h num den (q := [(x : Int), (y : Int)]) (Q := y * 2 ^ 32 + x) (last := last) hQ hn hL k
theorem near_j3 {size F E S : Nat} {L : Int} {I : Nat} (h : IsFmt size F E S L I) (num den : List Int) {m : List Int} (ho : okl B32 m) (tm : top m) (lm : m.length ≤ 490) (flag : Bool) {last : Int} {Q : Nat} (hq : Q = nv B32 m + (if flag = true then 1 else 0)) (hQ : Q ≤ 2 ^ (F + 1)) (hn : 2 ^ F ≤ Q ∨ last = L) (hL : L ≤ last) {k : Nat} (hk : 3000 ≤ k) :
    numeralref13_Nearest.j3 k num den size last m flag = some ((nr I ((last - L).toNat * 2 ^ F + Q)).1, (nr I ((last - L).toNat * 2 ^ F + Q)).2, num, den) := by
  obtain ⟨k, rfl⟩ : ∃ j, k = j + 1 := ⟨k - 1, by omega⟩
  rw [numeralref13_Nearest.j3]
  cases flag with
  | false =>
    rw [if_neg (by simp), Nat.add_zero] at hq
    subst hq
    rw [if_neg (by simp)]
    exact near_j4 h num den ho tm hQ hn hL (by omega)
  | true =>
    rw [if_pos rfl] at hq
    have hone : okl B32 [1] := okl_cons.2 ⟨⟨by decide, by decide⟩, okl_nil _⟩
    obtain ⟨p, p1, p2, p3, p4, p5⟩ := badd_ok ho hone (by omega) (by simp) (k := k) (by omega)
    have e1 : nv B32 [1] = 1 := by simp [nv]
    have e : nv B32 p = Q := by omega
    subst e
    rw [if_pos rfl, bind_eq p1]
    exact near_j4 h num den p2 p3 hQ hn hL (by omega)
theorem cmpn_pos' (a b : Nat) : cmpn a b > 0 ↔ b < a := by
  unfold cmpn
  by_cases h : a < b
  · rw [if_pos h]; constructor <;> intro h2 <;> omega
  · rw [if_neg h]
    by_cases h2 : a > b
    · rw [if_pos h2]; constructor <;> intro h3 <;> omega
    · rw [if_neg h2]; constructor <;> intro h3 <;> omega
theorem cmpn_zero' (a b : Nat) : cmpn a b = 0 ↔ a = b := by
  unfold cmpn
  by_cases h : a < b
  · rw [if_pos h]; constructor <;> intro h2 <;> omega
  · rw [if_neg h]
    by_cases h2 : a > b
    · rw [if_pos h2]; constructor <;> intro h3 <;> omega
    · rw [if_neg h2]; constructor <;> intro h3 <;> omega
theorem near_j2 {size F E S : Nat} {L : Int} {I : Nat} (h : IsFmt size F E S L I) (num den : List Int) {m : List Int} (ho : okl B32 m) (tm : top m) (lm : m.length ≤ 490) {x y r : Nat} (hd : x / y = nv B32 m) (hr : x % y = r) (t : Int) {last : Int} (hQ : rqt x y t ≤ 2 ^ (F + 1)) (hn : 2 ^ F ≤ rqt x y t ∨ last = L) (hL : L ≤ last) {k : Nat} (hk : 4000 ≤ k) :
    numeralref13_Nearest.j2 k num den size t last m (cmpn (2 * r) y) (decide (nv B32 m % 2 = 1)) = some ((nr I ((last - L).toNat * 2 ^ F + rqt x y t)).1, (nr I ((last - L).toNat * 2 ^ F + rqt x y t)).2, num, den) := by
  obtain ⟨k, rfl⟩ : ∃ j, k = j + 1 := ⟨k - 1, by omega⟩
  have key : ∀ flag : Bool, rqt x y t = nv B32 m + (if flag = true then 1 else 0) → numeralref13_Nearest.j3 k num den size last m flag = some ((nr I ((last - L).toNat * 2 ^ F + rqt x y t)).1, (nr I ((last - L).toNat * 2 ^ F + rqt x y t)).2, num, den) :=
    fun flag hf => near_j3 h num den ho tm lm flag hf hQ hn hL (by omega)
  rw [numeralref13_Nearest.j2]
  by_cases h1 : y < 2 * r
  · rw [if_pos ((cmpn_pos' _ _).2 h1)]
    refine key true ?_
    unfold rqt rdn rq
    rw [hd, hr]
    simp only [h1, true_or, if_true, ite_self]
  · rw [if_neg (fun c => h1 ((cmpn_pos' _ _).1 c))]
    by_cases h2 : 2 * r = y
    · rw [if_pos ((cmpn_zero' _ _).2 h2)]
      by_cases t1 : t > 0
      · rw [if_pos t1]
        refine key true ?_
        unfold rqt rq
        rw [if_pos t1, hd, hr, if_pos (.inr ⟨h2, .inl rfl⟩)]; rfl
      · rw [if_neg t1]
        by_cases t2 : t = 0
        · rw [if_pos t2]
          refine key _ ?_
          unfold rqt rq
          rw [if_neg t1, if_neg (by omega), hd, hr]
          by_cases g : nv B32 m % 2 = 1
          · rw [if_pos (.inr ⟨h2, .inr g⟩), if_pos (decide_eq_true g)]
          · rw [if_neg (by rintro (c | ⟨_, c | c⟩); exact h1 c; simp at c; exact g c), if_neg (by simpa using g)]; rfl
        · rw [if_neg t2]
          refine key false ?_
          unfold rqt rdn
          rw [if_neg t1, if_pos (by omega), hd, hr, if_neg h1]; rfl
    · rw [if_neg (fun c => h2 ((cmpn_zero' _ _).1 c))]
      refine key false ?_
      unfold rqt rdn rq
      rw [hd, hr]
      simp only [h1, h2, false_or, false_and, if_false, ite_self, Bool.false_eq_true, Nat.add_zero]
/-- One round of Nearest's loop: too wide, then the next; else the end. -/
theorem near_j1 {size F E S : Nat} {L : Int} {I : Nat} (h : IsFmt size F E S L I) (num den : List Int) {x y : List Int} (hx : okl B32 x) (hy : okl B32 y) (tx : top x) (ty : top y) (lx : x.length ≤ 480) (ly : y.length ≤ 480) (h0 : 0 < nv B32 y) (t last : Int) {k : Nat} (hk : 60000 ≤ k) :
    (2 ^ (F + 1) ≤ nv B32 x / nv B32 y → numeralref13_Nearest.j1 (k + 1) num den size t ((F : Int) + 1) last x y = numeralref13_Nearest.l0 k num den size t ((F : Int) + 1) (wrap64 (last + 1))) ∧
    (nv B32 x / nv B32 y < 2 ^ (F + 1) → (2 ^ F ≤ rqt (nv B32 x) (nv B32 y) t ∨ last = L) → L ≤ last →
      numeralref13_Nearest.j1 (k + 1) num den size t ((F : Int) + 1) last x y = some ((nr I ((last - L).toNat * 2 ^ F + rqt (nv B32 x) (nv B32 y) t)).1, (nr I ((last - L).toNat * 2 ^ F + rqt (nv B32 x) (nv B32 y) t)).2, num, den)) := by
  obtain ⟨m, r, o1, o2, o3, o4, o5, o6, o7, o8⟩ := bdiv_ok hx hy tx ty (by omega) (by omega) h0 (k := k) (by omega)
  obtain ⟨Lm, b1, b2, b3⟩ := bbits_ok o2 (by omega) (k := k) (by omega)
  have hdiv : nv B32 x / nv B32 y = nv B32 m := by
    rw [← o6, Nat.mul_comm, Nat.mul_add_div h0, Nat.div_eq_of_lt o7, Nat.add_zero]
  have hmod : nv B32 x % nv B32 y = nv B32 r := by
    rw [← o6, Nat.mul_comm, Nat.mul_add_mod, Nat.mod_eq_of_lt o7]
  refine ⟨fun hbig => ?_, fun hsm hn hL => ?_⟩
  · rw [hdiv] at hbig
    have hgt : (Lm : Int) > (F : Int) + 1 := by
      rcases Nat.lt_or_ge (F + 1) Lm with c | c
      · omega
      · exfalso
        have h1 : 2 ^ Lm ≤ 2 ^ (F + 1) := Nat.pow_le_pow_right (by decide) c
        have h2 := b2.1
        omega
    rw [numeralref13_Nearest.j1, bind_eq o1, bind_eq b1, if_pos hgt]
  · rw [hdiv] at hsm
    have hle : ¬ (Lm : Int) > (F : Int) + 1 := by
      intro c
      have hpos : 0 < nv B32 m := by
        rcases Nat.eq_zero_or_pos (nv B32 m) with g | g
        · have := b2.2.2 g; omega
        · exact g
      have h1 : 2 ^ (F + 1) ≤ 2 ^ (Lm - 1) := Nat.pow_le_pow_right (by decide) (by omega)
      have h2 := (b2.2.1 hpos).2
      omega
    have hrl : r.length ≤ y.length := len_le_of_nv b32_one hy o4 o5 (by omega)
    obtain ⟨p, p1, p2, p3, p4, p5⟩ := bshl_ok o4 (by omega) (n := 1) (by omega) (k := k) (by omega)
    have hc := bcmp_ok b32_one p2 hy p3 ty (by omega) (by omega) (k := k) (by omega)
    rw [show ((1 : Nat) : Int) = 1 from rfl] at p1
    rw [Nat.pow_one] at p4
    rw [p4] at hc
    have hQ : rqt (nv B32 x) (nv B32 y) t ≤ 2 ^ (F + 1) := by
      have := rqt_le (nv B32 x) (nv B32 y) t
      omega
    have hj2 := near_j2 h num den o2 o3 (by omega) hdiv hmod t hQ hn hL (k := k) (by omega)
    rw [numeralref13_Nearest.j1, bind_eq o1, bind_eq b1, if_neg hle, bind_eq p1, bind_eq hc]
    cases m with
    | nil =>
      rw [if_neg (by simp)]
      have e : decide (nv B32 ([] : List Int) % 2 = 1) = false := rfl
      rw [e] at hj2
      exact hj2
    | cons z m' =>
      obtain ⟨hz, _⟩ := okl_cons.1 o2
      obtain ⟨z, rfl⟩ := Int.eq_ofNat_of_zero_le hz.1
      have hz2 : z < 4294967296 := by have := hz.2; unfold B32 at this; omega
      have hr0 : rd ((z : Int) :: m') 0 = (z : Int) := rfl
      have hB : ∀ a b : Nat, (a + B32 * b) % 2 = a % 2 := by intro a b; unfold B32; omega
      have hodd : (Go.bits .and .u64 (z : Int) 1 == 1) = decide (nv B32 ((z : Int) :: m') % 2 = 1) := by
        rw [nv, hB, Int.toNat_natCast, and_one (by omega)]
        by_cases g : z % 2 = 1
        · rw [decide_eq_true g, g]; rfl
        · rw [decide_eq_false g, show z % 2 = 0 by omega]; rfl
      rw [if_pos (by simp only [List.length_cons]; omega), if_pos (by simp only [List.length_cons]; omega), hr0, hodd]
      exact hj2
/-- Nearest's loop at one last bit. -/
theorem near_l0 {size F E S : Nat} {L : Int} {I : Nat} (h : IsFmt size F E S L I) {num den : List Int} (hn : okl B32 num) (hd : okl B32 den) (tn : top num) (td : top den) (ln : num.length ≤ 200) (ld : den.length ≤ 200) (d0 : 0 < nv B32 den) (t last : Int) (hl0 : -5000 ≤ last) (hl1 : last ≤ 5000) {k : Nat} (hk : 60000 ≤ k) :
    (2 ^ (F + 1) ≤ (nv B32 num * pd last) / (nv B32 den * pu last) → numeralref13_Nearest.l0 (k + 2) num den size t ((F : Int) + 1) last = numeralref13_Nearest.l0 k num den size t ((F : Int) + 1) (wrap64 (last + 1))) ∧
    ((nv B32 num * pd last) / (nv B32 den * pu last) < 2 ^ (F + 1) → (2 ^ F ≤ rqt (nv B32 num * pd last) (nv B32 den * pu last) t ∨ last = L) → L ≤ last →
      numeralref13_Nearest.l0 (k + 2) num den size t ((F : Int) + 1) last = some ((nr I ((last - L).toNat * 2 ^ F + rqt (nv B32 num * pd last) (nv B32 den * pu last) t)).1, (nr I ((last - L).toNat * 2 ^ F + rqt (nv B32 num * pd last) (nv B32 den * pu last) t)).2, num, den)) := by
  rw [show k + 2 = (k + 1) + 1 by omega, numeralref13_Nearest.l0]
  by_cases hs : last ≥ 0
  · obtain ⟨s, hs'⟩ := Int.eq_ofNat_of_zero_le hs
    obtain ⟨p, p1, p2, p3, p4, p5⟩ := bshl_ok hd (by omega) (n := s) (by omega) (k := k + 1) (by omega)
    have e1 : pd last = 1 := by unfold pd; rw [show (-last).toNat = 0 by omega]
    have e2 : pu last = 2 ^ s := by unfold pu; rw [hs', Int.toNat_natCast]
    have hp : nv B32 p = nv B32 den * pu last := by rw [p4, e2, Nat.mul_comm]
    have hj := near_j1 h num den hn p2 tn p3 (by omega) (by omega) (by rw [hp]; exact Nat.mul_pos d0 (pu_pos _)) t last hk
    rw [hp] at hj
    rw [if_pos hs]
    rw [← hs'] at p1
    rw [bind_eq p1, e1, Nat.mul_one]
    exact hj
  · obtain ⟨s, hs'⟩ : ∃ s : Nat, last = -(s : Int) := ⟨(-last).toNat, by omega⟩
    obtain ⟨p, p1, p2, p3, p4, p5⟩ := bshl_ok hn (by omega) (n := s) (by omega) (k := k + 1) (by omega)
    have e1 : pu last = 1 := by unfold pu; rw [show last.toNat = 0 by omega]
    have e2 : pd last = 2 ^ s := by unfold pd; rw [show (-last).toNat = s by omega]
    have hp : nv B32 p = nv B32 num * pd last := by rw [p4, e2, Nat.mul_comm]
    have hj := near_j1 h num den p2 hd p3 td (by omega) (by omega) d0 t last hk
    rw [hp] at hj
    rw [if_neg hs, wrapi_id (n := -last) (by omega) (by omega), show -last = (s : Int) by omega, bind_eq p1, e1, Nat.mul_one]
    exact hj
end Go.Proofs.YtbnmchaldolpfaaDoor.XoB
end
