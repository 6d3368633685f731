
/- A word pair by a word: the library's long division in halves. -/
import Derived.Test.YtemjpmgfbnlkjaaA
import Derived.Test.YtemjpmgfbnlkjaaXwU
import Derived.Test.YtemjpmgfbnlkjaaXwx2
import Derived.Test.YtemjpmgfbnlkjaaXwx3
namespace Go.Proofs.Ytemjpmgfbnlkjaa.XwB
open Go.RowKit Go.Proofs.Ytemjpmgfbnlkjaa.Xw Go.Proofs.Ytemjpmgfbnlkjaa.A Go.Proofs.Ytemjpmgfbnlkjaa.L Go.Proofs.YtemjpmgfbnlkjaaW.PrintWords Go.Proofs.YtemjpmgfbnlkjaaW.PrintLast Go.Proofs.YtemjpmgfbnlkjaaW.PrintMore
set_option linter.unusedSimpArgs false
set_option linter.unusedVariables false
/-- What the correcting of a guess comes to: the quotient. -/
theorem guess_ok {u y y1 y0 d q r : Nat} (hy : y = y1 * 4294967296 + y0) (hu : q * y1 + r = u) (hle : q * y0 ≤ 4294967296 * r + d) (hge : (u * 4294967296 + d) / y ≤ q) (hy0 : 0 < y) : q = (u * 4294967296 + d) / y := by
  have h1 : q * y ≤ u * 4294967296 + d := by
    have e1 : q * y = q * y1 * 4294967296 + q * y0 := by rw [hy, Nat.mul_add, Nat.mul_assoc]
    rw [e1, ← hu, Nat.add_mul]
    omega
  have h2 : q ≤ (u * 4294967296 + d) / y := (Nat.le_div_iff_mul_le hy0).2 h1
  omega
theorem guess_high {u y y1 y0 d q r : Nat} (hy : y = y1 * 4294967296 + y0) (hu : q * y1 + r = u) (hd : d < 4294967296) (huy : u < y) (h : 4294967296 ≤ q ∨ 4294967296 * r + d < q * y0) (hy0 : 0 < y) : (u * 4294967296 + d) / y < q := by
  rw [Nat.div_lt_iff_lt_mul hy0]
  rcases h with h | h
  · have h1 := Nat.mul_le_mul_right y h
    have h2 := Nat.mul_le_mul_left 4294967296 (show u + 1 ≤ y from huy)
    rw [Nat.mul_add, Nat.mul_one] at h2
    rw [Nat.mul_comm u]
    omega
  · have e1 : q * y = q * y1 * 4294967296 + q * y0 := by rw [hy, Nat.mul_add, Nat.mul_assoc]
    rw [e1, ← hu, Nat.add_mul]
    omega
theorem div64_l0 {y y1 y0 u d : Nat} (hy : y = y1 * 4294967296 + y0) (hy1 : 2147483648 ≤ y1) (hy1' : y1 < 4294967296) (hy0 : y0 < 4294967296) (hu : u < y) (hd : d < 4294967296) (s e : Int) (un32 : Int) : ∀ (n k q r : Nat), 4294967296 ≤ r + n * 2147483648 → 2 * n + 3 ≤ k → q * y1 + r = u → r < 4294967296 → (u * 4294967296 + d) / y ≤ q → q ≤ 4294967297 →
    ∃ k', k ≤ k' + (2 * n + 3) ∧ bits_Div64.l0 k (y : Int) s (y1 : Int) (y0 : Int) un32 (d : Int) e (q : Int) (r : Int) = bits_Div64.j2 k' (y : Int) s (y1 : Int) (y0 : Int) un32 (d : Int) e (((u * 4294967296 + d) / y : Nat) : Int) := by
  intro n
  induction n with
  | zero => intro k q r h1 hk h2 h3 h4 h5; omega
  | succ n ih =>
    intro k q r h1 hk h2 h3 h4 h5
    obtain ⟨k, rfl⟩ : ∃ z, k = z + 1 + 1 := ⟨k - 2, by omega⟩
    have hyp : 0 < y := by omega
    have hq0 : q * y0 < 18446744073709551616 + 4294967296 * 2 := by
      have := Nat.mul_le_mul h5 (show y0 ≤ 4294967295 by omega)
      omega
    by_cases hc : 4294967296 ≤ q ∨ 4294967296 * r + d < q * y0
    · have hgt := guess_high hy h2 hd hu hc hyp
      have hj : bits_Div64.l0 (k + 1 + 1) (y : Int) s (y1 : Int) (y0 : Int) un32 (d : Int) e (q : Int) (r : Int) = bits_Div64.j1 (k + 1) (y : Int) s (y1 : Int) (y0 : Int) un32 (d : Int) e (q : Int) (r : Int) true := by
        rw [bits_Div64.l0]
        by_cases hq : 4294967296 ≤ q
        · rw [if_pos (by omega)]
        · have hlt : q * y0 < 18446744073709551616 := by
            have := Nat.mul_le_mul (show q ≤ 4294967295 by omega) (show y0 ≤ 4294967295 by omega)
            omega
          rw [if_neg (by omega), show (q : Int) * (y0 : Int) = ((q * y0 : Nat) : Int) from (Int.natCast_mul q y0).symm, wrapu_id (n := ((q * y0 : Nat) : Int)) (by omega) (by omega), wrapu_id (n := 4294967296 * (r : Int)) (by omega) (by omega), wrapu_id (n := 4294967296 * (r : Int) + (d : Int)) (by omega) (by omega), decide_eq_true (by omega)]
      have hq1 : 1 ≤ q := Nat.lt_of_le_of_lt (Nat.zero_le _) hgt
      obtain ⟨p, rfl⟩ : ∃ p, q = p + 1 := ⟨q - 1, by omega⟩
      have h2' : p * y1 + (r + y1) = u := by rw [Nat.add_mul, Nat.one_mul] at h2; omega
      rw [hj, bits_Div64.j1, if_pos rfl, wrapu_id (n := (r : Int) + (y1 : Int)) (by omega) (by omega), wrapu_id (n := ((p + 1 : Nat) : Int) - 1) (by omega) (by omega), show ((p + 1 : Nat) : Int) - 1 = (p : Int) by omega, show (r : Int) + (y1 : Int) = ((r + y1 : Nat) : Int) by omega]
      by_cases hb : 4294967296 ≤ r + y1
      · have hp : p < 4294967296 := by
          rcases Nat.lt_or_ge p 4294967296 with h | h
          · exact h
          · exfalso
            have := Nat.mul_le_mul_right y1 h
            omega
        have hle : p * y0 ≤ 4294967296 * (r + y1) + d := by
          have h6 := Nat.mul_le_mul (show p ≤ 4294967295 by omega) (show y0 ≤ 4294967295 by omega)
          have h7 := Nat.mul_le_mul_left 4294967296 hb
          omega
        have := guess_ok hy h2' hle (by omega) hyp
        rw [if_pos (by omega), this]
        exact ⟨k, by omega, rfl⟩
      · obtain ⟨k', k1, k2⟩ := ih k p (r + y1) (by omega) (by omega) h2' (by omega) (by omega) (by omega)
        rw [if_neg (by omega), k2]
        exact ⟨k', by omega, rfl⟩
    · have hq : ¬ 4294967296 ≤ q := fun h => hc (.inl h)
      have hle : q * y0 ≤ 4294967296 * r + d := by
        rcases Nat.lt_or_ge (4294967296 * r + d) (q * y0) with h | h
        · exact absurd (.inr h) hc
        · exact h
      have := guess_ok hy h2 hle h4 hyp
      have hlt : q * y0 < 18446744073709551616 := by
        have := Nat.mul_le_mul (show q ≤ 4294967295 by omega) (show y0 ≤ 4294967295 by omega)
        omega
      refine ⟨k, by omega, ?_⟩
      rw [bits_Div64.l0, if_neg (by omega), show (q : Int) * (y0 : Int) = ((q * y0 : Nat) : Int) from (Int.natCast_mul q y0).symm, wrapu_id (n := ((q * y0 : Nat) : Int)) (by omega) (by omega), wrapu_id (n := 4294967296 * (r : Int)) (by omega) (by omega), wrapu_id (n := 4294967296 * (r : Int) + (d : Int)) (by omega) (by omega), decide_eq_false (by omega), bits_Div64.j1, if_neg (by decide), this]
/-- The end of the division, where the last guess is right. -/
def endv (y : Nat) (u d q1 q0 s : Nat) : Option (Int × Int) := some (((q1 * 4294967296 + q0 : Nat) : Int), (((u * 4294967296 + d - q0 * y) / 2 ^ s : Nat) : Int))
theorem div64_l1 {y y1 y0 u d q1 s : Nat} (hy : y = y1 * 4294967296 + y0) (hy1 : 2147483648 ≤ y1) (hy1' : y1 < 4294967296) (hy0 : y0 < 4294967296) (hu : u < y) (hd : d < 4294967296) (hq1 : q1 < 4294967296) (hs : s < 64) : ∀ (n k q r : Nat), 4294967296 ≤ r + n * 2147483648 → 2 * n + 3 ≤ k → q * y1 + r = u → r < 4294967296 → (u * 4294967296 + d) / y ≤ q → q ≤ 4294967297 →
    bits_Div64.l1 k (y : Int) (s : Int) (y1 : Int) (y0 : Int) (d : Int) (q1 : Int) (r : Int) (u : Int) (q : Int) = endv y u d q1 ((u * 4294967296 + d) / y) s := by
  have hyp : 0 < y := by omega
  have hy64 : y < 18446744073709551616 := by omega
  have hqt : (u * 4294967296 + d) / y < 4294967296 := by
    rw [Nat.div_lt_iff_lt_mul hyp]
    have h2 := Nat.mul_le_mul_left 4294967296 (show u + 1 ≤ y from hu)
    rw [Nat.mul_add, Nat.mul_one] at h2
    omega
  have hend : ∀ p : Nat, p = (u * 4294967296 + d) / y → (if 0 ≤ (s : Int) then (some (IntKind.u64.wrap ((IntKind.u64.wrap ((q1 : Int) * 4294967296)) + (p : Int)), shr .u64 (IntKind.u64.wrap ((IntKind.u64.wrap ((IntKind.u64.wrap ((u : Int) * 4294967296)) + (d : Int))) - (IntKind.u64.wrap ((p : Int) * (y : Int))))) (s : Int))) else (none)) = endv y u d q1 ((u * 4294967296 + d) / y) s := by
    intro p hp
    have hm := Nat.mod_add_div (u * 4294967296 + d) y
    have hml := Nat.mod_lt (u * 4294967296 + d) hyp
    rw [← hp] at hm hqt ⊢
    have hrest : u * 4294967296 + d - p * y = (u * 4294967296 + d) % y := by rw [Nat.mul_comm p y]; omega
    rw [if_pos (by omega), show (p : Int) * (y : Int) = ((p * y : Nat) : Int) from (Int.natCast_mul p y).symm]
    unfold endv
    have hw : IntKind.u64.wrap ((IntKind.u64.wrap ((IntKind.u64.wrap ((u : Int) * 4294967296)) + (d : Int))) - (IntKind.u64.wrap (((p * y : Nat)) : Int))) = ((u * 4294967296 + d - p * y : Nat) : Int) := by
      have hle : p * y ≤ u * 4294967296 + d := by rw [Nat.mul_comm p y]; omega
      have hlt : u * 4294967296 + d - p * y < 18446744073709551616 := by omega
      rw [wrapu, wrapu, wrapu, wrapu]
      generalize p * y = z at *
      omega
    rw [hw, shr_u _ s (by omega), wrapu_id (n := (q1 : Int) * 4294967296) (by omega) (by omega), wrapu_id (n := (q1 : Int) * 4294967296 + (p : Int)) (by omega) (by omega), show (q1 : Int) * 4294967296 + (p : Int) = ((q1 * 4294967296 + p : Nat) : Int) by omega]
  intro n
  induction n with
  | zero => intro k q r h1 hk h2 h3 h4 h5; omega
  | succ n ih =>
    intro k q r h1 hk h2 h3 h4 h5
    obtain ⟨k, rfl⟩ : ∃ z, k = z + 1 + 1 := ⟨k - 2, by omega⟩
    by_cases hc : 4294967296 ≤ q ∨ 4294967296 * r + d < q * y0
    · have hgt := guess_high hy h2 hd hu hc hyp
      have hj : bits_Div64.l1 (k + 1 + 1) (y : Int) (s : Int) (y1 : Int) (y0 : Int) (d : Int) (q1 : Int) (r : Int) (u : Int) (q : Int) = bits_Div64.j4 (k + 1) (y : Int) (s : Int) (y1 : Int) (y0 : Int) (d : Int) (q1 : Int) (r : Int) (u : Int) (q : Int) true := by
        rw [bits_Div64.l1]
        by_cases hq : 4294967296 ≤ q
        · rw [if_pos (by omega)]
        · have hlt : q * y0 < 18446744073709551616 := by
            have := Nat.mul_le_mul (show q ≤ 4294967295 by omega) (show y0 ≤ 4294967295 by omega)
            omega
          rw [if_neg (by omega), show (q : Int) * (y0 : Int) = ((q * y0 : Nat) : Int) from (Int.natCast_mul q y0).symm, wrapu_id (n := ((q * y0 : Nat) : Int)) (by omega) (by omega), wrapu_id (n := 4294967296 * (r : Int)) (by omega) (by omega), wrapu_id (n := 4294967296 * (r : Int) + (d : Int)) (by omega) (by omega), decide_eq_true (by omega)]
      have hqq1 : 1 ≤ q := Nat.lt_of_le_of_lt (Nat.zero_le _) hgt
      obtain ⟨p, rfl⟩ : ∃ p, q = p + 1 := ⟨q - 1, by omega⟩
      have h2' : p * y1 + (r + y1) = u := by rw [Nat.add_mul, Nat.one_mul] at h2; omega
      rw [hj, bits_Div64.j4, if_pos rfl, wrapu_id (n := (r : Int) + (y1 : Int)) (by omega) (by omega), wrapu_id (n := ((p + 1 : Nat) : Int) - 1) (by omega) (by omega), show ((p + 1 : Nat) : Int) - 1 = (p : Int) by omega, show (r : Int) + (y1 : Int) = ((r + y1 : Nat) : Int) by omega]
      by_cases hb : 4294967296 ≤ r + y1
      · have hp : p < 4294967296 := by
          rcases Nat.lt_or_ge p 4294967296 with h | h
          · exact h
          · exfalso
            have := Nat.mul_le_mul_right y1 h
            omega
        have hle : p * y0 ≤ 4294967296 * (r + y1) + d := by
          have h6 := Nat.mul_le_mul (show p ≤ 4294967295 by omega) (show y0 ≤ 4294967295 by omega)
          have h7 := Nat.mul_le_mul_left 4294967296 hb
          omega
        have := guess_ok hy h2' hle (by omega) hyp
        rw [if_pos (by omega)]
        exact hend p this
      · rw [if_neg (by omega)]
        exact ih k p (r + y1) (by omega) (by omega) h2' (by omega) (by omega) (by omega)
    · have hq : ¬ 4294967296 ≤ q := fun h => hc (.inl h)
      have hle : q * y0 ≤ 4294967296 * r + d := by
        rcases Nat.lt_or_ge (4294967296 * r + d) (q * y0) with h | h
        · exact absurd (.inr h) hc
        · exact h
      have := guess_ok hy h2 hle h4 hyp
      have hlt : q * y0 < 18446744073709551616 := by
        have := Nat.mul_le_mul (show q ≤ 4294967295 by omega) (show y0 ≤ 4294967295 by omega)
        omega
      rw [bits_Div64.l1, if_neg (by omega), show (q : Int) * (y0 : Int) = ((q * y0 : Nat) : Int) from (Int.natCast_mul q y0).symm, wrapu_id (n := ((q * y0 : Nat) : Int)) (by omega) (by omega), wrapu_id (n := 4294967296 * (r : Int)) (by omega) (by omega), wrapu_id (n := 4294967296 * (r : Int) + (d : Int)) (by omega) (by omega), decide_eq_false (by omega), bits_Div64.j4, if_neg (by decide)]
      exact hend q this
/-- The first guess. -/
theorem first_guess {u y y1 y0 d : Nat} (hy : y = y1 * 4294967296 + y0) (hy1 : 2147483648 ≤ y1) (hy0 : y0 < 4294967296) (hu : u < y) (hd : d < 4294967296) :
    u / y1 * y1 + u % y1 = u ∧ (u * 4294967296 + d) / y ≤ u / y1 ∧ u / y1 ≤ 4294967297 := by
  have hp : 0 < y1 := by omega
  have h1 := Nat.mod_add_div u y1
  have h2 := Nat.mod_lt u hp
  refine ⟨by rw [Nat.mul_comm]; omega, ?_, ?_⟩
  · have h3 : (u * 4294967296 + d) / y < u / y1 + 1 := by
      rw [Nat.div_lt_iff_lt_mul (by omega)]
      have e : (u / y1 + 1) * y = (u / y1 + 1) * y1 * 4294967296 + (u / y1 + 1) * y0 := by rw [hy, Nat.mul_add, Nat.mul_assoc]
      rw [e]
      have h4 : u + 1 ≤ (u / y1 + 1) * y1 := by rw [Nat.add_mul, Nat.one_mul, Nat.mul_comm]; omega
      have h5 := Nat.mul_le_mul_right 4294967296 h4
      rw [Nat.add_mul, Nat.one_mul] at h5
      omega
    omega
  · have h3 : u / y1 < 4294967298 := by
      rw [Nat.div_lt_iff_lt_mul hp]
      omega
    omega
theorem tdiv_nat (a b : Nat) : Int.tdiv (a : Int) (b : Int) = ((a / b : Nat) : Int) := (Int.ofNat_tdiv a b).symm
theorem rem_u {a y1 q r : Nat} (h : r + y1 * q = a) (ha : a < 18446744073709551616) (hy1 : 0 < y1) : IntKind.u64.wrap ((a : Int) - IntKind.u64.wrap (IntKind.u64.wrap (q : Int) * (y1 : Int))) = (r : Int) := by
  have hq : q ≤ y1 * q := Nat.le_mul_of_pos_left q hy1
  rw [wrapu_id (n := (q : Int)) (by omega) (by omega), show (q : Int) * (y1 : Int) = ((y1 * q : Nat) : Int) by rw [Nat.mul_comm]; exact (Int.natCast_mul _ _).symm]
  generalize y1 * q = z at *
  rw [wrapu_id (n := (z : Int)) (by omega) (by omega), wrapu_id (by omega) (by omega)]
  omega
theorem quo_lt {u y d : Nat} (hu : u < y) (hd : d < 4294967296) : (u * 4294967296 + d) / y < 4294967296 := by
  rw [Nat.div_lt_iff_lt_mul (by omega)]
  have h2 := Nat.mul_le_mul_left 4294967296 (show u + 1 ≤ y from hu)
  rw [Nat.mul_add, Nat.mul_one] at h2
  omega
theorem wrap_div {a b : Nat} (ha : a < 18446744073709551616) : IntKind.u64.wrap ((a / b : Nat) : Int) = ((a / b : Nat) : Int) := by
  have := Nat.div_le_self a b
  generalize a / b = q at *
  exact wrapu_id (by omega) (by omega)
theorem two_halves {N Y q1 r1 q0 r0 d1 d0 u : Nat} (hQ1 : r1 + Y * q1 = u * 4294967296 + d1) (hQ2 : r0 + Y * q0 = r1 * 4294967296 + d0) (hN : u * 18446744073709551616 + (d1 * 4294967296 + d0) = N) : N = Y * (q1 * 4294967296 + q0) + r0 := by
  rw [← hN, Nat.mul_add, ← Nat.mul_assoc]
  generalize Y * q1 = z1 at *
  generalize Y * q0 = z0 at *
  omega
theorem shifted_back {N P y Q r0 : Nat} (hP : 0 < P) (hy0 : 0 < y) (hfin : N * P = y * P * Q + r0) (hR : r0 < y * P) : N / y = Q ∧ N % y = r0 / P := by
  have hr0 : r0 % P = 0 := by
    have : (y * P * Q + r0) % P = 0 := by rw [← hfin, Nat.mul_mod_left]
    rw [Nat.mul_right_comm, Nat.add_comm, Nat.add_mul_mod_self_right] at this
    exact this
  obtain ⟨r', hr'⟩ : ∃ r', r0 = r' * P := ⟨r0 / P, by have := Nat.div_add_mod r0 P; rw [hr0, Nat.add_zero, Nat.mul_comm] at this; exact this.symm⟩
  have hN2 : N = y * Q + r' := by
    rw [hr', Nat.mul_right_comm, ← Nat.add_mul] at hfin
    exact Nat.eq_of_mul_eq_mul_right hP hfin
  have hr'y : r' < y := by rw [hr'] at hR; exact Nat.lt_of_mul_lt_mul_right hR
  rw [hr', Nat.mul_div_cancel _ hP, hN2, Nat.mul_add_div hy0, Nat.div_eq_of_lt hr'y, Nat.mul_add_mod, Nat.mod_eq_of_lt hr'y, Nat.add_zero]
  exact ⟨rfl, rfl⟩
/-- The division of what was shifted so that the divisor's first bit is 1. -/
theorem div64_core {Y w u s k : Nat} (hY1 : Y < 18446744073709551616) (hY2 : 9223372036854775808 ≤ Y) (hw64 : w < 18446744073709551616) (hU : u < Y) (hs : s < 64) (hk : 40 ≤ k) :
    (bits_Div64.l0 k (Y : Int) (s : Int) ((Y / 4294967296 : Nat) : Int) ((Y % 4294967296 : Nat) : Int) (u : Int) ((w / 4294967296 : Nat) : Int) ((w % 4294967296 : Nat) : Int) ((u / (Y / 4294967296) : Nat) : Int) ((u % (Y / 4294967296) : Nat) : Int)) = some ((((u * 18446744073709551616 + w) / Y : Nat) : Int), (((u * 18446744073709551616 + w) % Y / 2 ^ s : Nat) : Int)) := by
  have hYs : Y = Y / 4294967296 * 4294967296 + Y % 4294967296 := by omega
  have g1 : 2147483648 ≤ Y / 4294967296 := by omega
  have g2 : Y / 4294967296 < 4294967296 := by omega
  have g3 : Y % 4294967296 < 4294967296 := by omega
  have g4 : w / 4294967296 < 4294967296 := by omega
  have g5 : w % 4294967296 < 4294967296 := by omega
  have hw : w / 4294967296 * 4294967296 + w % 4294967296 = w := by omega
  generalize Y / 4294967296 = y1 at *
  generalize Y % 4294967296 = y0 at *
  generalize w / 4294967296 = d1 at *
  generalize w % 4294967296 = d0 at *
  obtain ⟨f1, f2, f3⟩ := first_guess hYs g1 g3 hU g4
  have f4 := Nat.mod_lt u (show 0 < y1 by omega)
  obtain ⟨k', k1, k2⟩ := div64_l0 hYs g1 g2 g3 hU g4 (s : Int) (d0 : Int) (u : Int) 2 k (u / y1) (u % y1) (by omega) (by omega) f1 (by omega) f2 f3
  rw [k2]
  have hQ1 := Nat.mod_add_div (u * 4294967296 + d1) Y
  have hR1 := Nat.mod_lt (u * 4294967296 + d1) (show 0 < Y by omega)
  have hQb := quo_lt hU g4
  obtain ⟨q1, hq1⟩ : ∃ q, q = (u * 4294967296 + d1) / Y := ⟨_, rfl⟩
  obtain ⟨r1, hr1⟩ : ∃ q, q = (u * 4294967296 + d1) % Y := ⟨_, rfl⟩
  rw [← hq1, ← hr1] at hQ1
  rw [← hr1] at hR1
  rw [← hq1] at hQb
  rw [← hq1]
  clear hq1 hr1 k2
  obtain ⟨k', rfl⟩ : ∃ z, k' = z + 1 := ⟨k' - 1, by omega⟩
  have hun : IntKind.u64.wrap (IntKind.u64.wrap (IntKind.u64.wrap ((u : Int) * 4294967296) + (d1 : Int)) - IntKind.u64.wrap ((q1 : Int) * (Y : Int))) = (r1 : Int) := by
    rw [show (q1 : Int) * (Y : Int) = ((Y * q1 : Nat) : Int) by rw [Nat.mul_comm]; exact (Int.natCast_mul _ _).symm]
    rw [wrapu, wrapu, wrapu, wrapu]
    generalize Y * q1 = z at *
    clear f1 f2 f3 f4
    omega
  obtain ⟨h1, h2, h3⟩ := first_guess hYs g1 g3 hR1 g5
  have h4 := Nat.mod_lt r1 (show 0 < y1 by omega)
  have hrr := rem_u (Nat.mod_add_div r1 y1) (by omega) (by omega)
  rw [wrap_div (by omega)] at hrr
  rw [bits_Div64.j2, if_neg (by omega), hun, tdiv_nat, wrap_div (by omega), hrr, div64_l1 hYs g1 g2 g3 hR1 g5 hQb hs 2 k' (r1 / y1) (r1 % y1) (by omega) (by omega) h1 (by omega) h2 h3]
  have hQ2 := Nat.mod_add_div (r1 * 4294967296 + d0) Y
  have hR2 := Nat.mod_lt (r1 * 4294967296 + d0) (show 0 < Y by omega)
  unfold endv
  obtain ⟨q0, hq0⟩ : ∃ q, q = (r1 * 4294967296 + d0) / Y := ⟨_, rfl⟩
  obtain ⟨r0, hr0⟩ : ∃ q, q = (r1 * 4294967296 + d0) % Y := ⟨_, rfl⟩
  rw [← hq0, ← hr0] at hQ2
  rw [← hr0] at hR2
  rw [← hq0]
  have hfin := two_halves hQ1 hQ2 (by rw [hw])
  have hrest : r1 * 4294967296 + d0 - q0 * Y = r0 := by rw [Nat.mul_comm q0 Y]; omega
  rw [hrest, hfin, Nat.mul_add_div (by omega), Nat.div_eq_of_lt hR2, Nat.mul_add_mod, Nat.mod_eq_of_lt hR2, Nat.add_zero]
theorem div64_ok {hi lo y : Nat} (hlo : lo < 18446744073709551616) (hy : y < 18446744073709551616) (hh : hi < y) {k : Nat} (hk : 40 ≤ k) :
    bits_Div64.f k (hi : Int) (lo : Int) (y : Int) = some ((((hi * 18446744073709551616 + lo) / y : Nat) : Int), (((hi * 18446744073709551616 + lo) % y : Nat) : Int)) := by
  have hy0 : 0 < y := by omega
  unfold bits_Div64.f
  rw [if_neg (by omega), if_neg (by omega)]
  by_cases h0 : hi = 0
  · subst h0
    rw [if_pos (by rfl), tdiv_nat, show Int.tmod (lo : Int) (y : Int) = ((lo % y : Nat) : Int) from (Int.ofNat_tmod lo y).symm, Nat.zero_mul, Nat.zero_add]
    rw [wrap_div hlo]
  · obtain ⟨b0, b1, b2⟩ := blen_spec _ y rfl hy0 hy
    have hbl := bitLen_le64 y hy
    have hlz : bits_LeadingZeros64.f (y : Int) = some ((64 - Lib.bitLen y : Nat) : Int) := by
      have hlen : bits_Len64.f (y : Int) = some ((Lib.bitLen y : Nat) : Int) := by
        unfold bits_Len64.f u64ok
        rw [if_pos (u64ok_of hy), Int.toNat_natCast]
      unfold bits_LeadingZeros64.f
      rw [bind_eq hlen, wrapi_id (by omega) (by omega)]
      rw [show (64 : Int) - ((Lib.bitLen y : Nat) : Int) = ((64 - Lib.bitLen y : Nat) : Int) by omega]
    rw [if_neg (by omega), bind_eq hlz]
    generalize hs : 64 - Lib.bitLen y = s at *
    have hs64 : s < 64 := by omega
    have hbs : Lib.bitLen y = 64 - s := by omega
    rw [hbs] at b1 b2
    -- the divisor, its first bit 1
    have hP := Nat.two_pow_pos s
    have e64 : 2 ^ (64 - s) * 2 ^ s = 18446744073709551616 := by rw [← Nat.pow_add, show 64 - s + s = 64 by omega]
    have e63 : 2 ^ (64 - s - 1) * 2 ^ s = 9223372036854775808 := by rw [← Nat.pow_add, show 64 - s - 1 + s = 63 by omega]
    have hY1 : y * 2 ^ s < 18446744073709551616 := by rw [← e64]; exact Nat.mul_lt_mul_of_pos_right b2 hP
    have hY2 : 9223372036854775808 ≤ y * 2 ^ s := by rw [← e63]; exact Nat.mul_le_mul_right _ b1
    have hU : hi * 2 ^ s < y * 2 ^ s := Nat.mul_lt_mul_of_pos_right hh hP
    have hL : lo / 2 ^ (64 - s) < 2 ^ s := by
      rw [Nat.div_lt_iff_lt_mul (Nat.two_pow_pos _), Nat.mul_comm, e64]; exact hlo
    have hU1 : hi * 2 ^ s + lo / 2 ^ (64 - s) < y * 2 ^ s := by
      have := Nat.mul_le_mul_right (2 ^ s) (show hi + 1 ≤ y from hh)
      rw [Nat.add_mul, Nat.one_mul] at this
      omega
    have hlow : lo * 2 ^ s % 18446744073709551616 = lo % 2 ^ (64 - s) * 2 ^ s := by
      rw [← e64, Nat.mul_mod_mul_right]
    have hN : (hi * 2 ^ s + lo / 2 ^ (64 - s)) * 18446744073709551616 + lo % 2 ^ (64 - s) * 2 ^ s = (hi * 18446744073709551616 + lo) * 2 ^ s := by
      have h1 := Nat.div_add_mod lo (2 ^ (64 - s))
      have h2 : lo * 2 ^ s = lo / 2 ^ (64 - s) * 18446744073709551616 + lo % 2 ^ (64 - s) * 2 ^ s := by
        have h3 := congrArg (· * 2 ^ s) h1
        simp only [Nat.add_mul] at h3
        rw [Nat.mul_right_comm, e64, Nat.mul_comm 18446744073709551616] at h3
        exact h3.symm
      rw [Nat.add_mul, Nat.add_mul (hi * 18446744073709551616), h2, Nat.mul_right_comm hi]
      generalize hi * 2 ^ s = z1
      generalize lo / 2 ^ (64 - s) = z2
      generalize lo % 2 ^ (64 - s) * 2 ^ s = z3
      generalize hi * 18446744073709551616 * 2 ^ s = z4 at *
      omega
    have hlow64 : lo % 2 ^ (64 - s) * 2 ^ s < 18446744073709551616 := by
      rw [← e64]; exact Nat.mul_lt_mul_of_pos_right (Nat.mod_lt _ (Nat.two_pow_pos _)) hP
    rw [wrapu_id (n := ((s : Nat) : Int)) (by omega) (by omega), if_pos (by omega), wrapu_id (n := 64 - ((s : Nat) : Int)) (by omega) (by omega), if_pos (by omega), show 64 - ((s : Nat) : Int) = ((64 - s : Nat) : Int) by omega, shl_fit y s (by omega) hY1, shl_fit hi s (by omega) (by omega), shr_u lo (64 - s) (by omega), shl_u lo s (by omega), hlow, or_disj hi (lo / 2 ^ (64 - s)) s hL (by omega)]
    have hmask : ∀ a : Nat, a < 18446744073709551616 → Go.bits .and .u64 (a : Int) 4294967295 = ((a % 4294967296 : Nat) : Int) := fun a ha => and_mask a 32 ha (by omega)
    obtain ⟨Y, hYY⟩ : ∃ Y, Y = y * 2 ^ s := ⟨_, rfl⟩
    obtain ⟨u, hu⟩ : ∃ u, u = hi * 2 ^ s + lo / 2 ^ (64 - s) := ⟨_, rfl⟩
    obtain ⟨w, hw⟩ : ∃ w, w = lo % 2 ^ (64 - s) * 2 ^ s := ⟨_, rfl⟩
    rw [← hYY] at hY1 hY2 hU1
    rw [← hu] at hU1 hN
    rw [← hw] at hN hlow64
    rw [← hYY, ← hu, ← hw]
    have g1 : 0 < Y / 4294967296 := by omega
    rw [hmask Y hY1, hmask w hlow64, show (Y : Int) / 4294967296 = ((Y / 4294967296 : Nat) : Int) by omega, show (w : Int) / 4294967296 = ((w / 4294967296 : Nat) : Int) by omega, if_neg (by omega), tdiv_nat, wrap_div (show u < 18446744073709551616 by omega)]
    have hrr := rem_u (Nat.mod_add_div u (Y / 4294967296)) (by omega) g1
    rw [wrap_div (show u < 18446744073709551616 by omega)] at hrr
    rw [hrr, div64_core hY1 hY2 hlow64 hU1 hs64 hk, hN]
    have hmd := Nat.mod_add_div ((hi * 18446744073709551616 + lo) * 2 ^ s) Y
    obtain ⟨t1, t2⟩ := shifted_back (N := hi * 18446744073709551616 + lo) (P := 2 ^ s) (y := y) (Q := (hi * 18446744073709551616 + lo) * 2 ^ s / Y) (r0 := (hi * 18446744073709551616 + lo) * 2 ^ s % Y) hP hy0 (by rw [← hYY]; exact hmd.symm.trans (Nat.add_comm _ _)) (by rw [← hYY]; exact Nat.mod_lt _ (by omega))
    rw [t1, t2]
end Go.Proofs.Ytemjpmgfbnlkjaa.XwB
