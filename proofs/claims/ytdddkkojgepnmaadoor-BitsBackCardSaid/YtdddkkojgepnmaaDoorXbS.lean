
/- Steps between floats and their order, by the program and by the reference. -/
import Derived.Test.YtdddkkojgepnmaaDoorXbC
import Derived.Test.YtdddkkojgepnmaaDoorXbx7
import Derived.Test.YtdddkkojgepnmaaDoorXbx8
namespace Go.Proofs.YtdddkkojgepnmaaDoor.XbB
open Go.RowKit Go.Proofs.YtdddkkojgepnmaaDoor.Xb Go.Proofs.YtdddkkojgepnmaaDoor.A Go.Proofs.YtdddkkojgepnmaaDoorW.PrintWords Go.Proofs.YtdddkkojgepnmaaDoorW.PrintLast
set_option linter.unusedSimpArgs false
set_option linter.unusedVariables false
theorem and_sign0 {S a : Nat} (hS : S + 1 ≤ 64) (ha : a < 2 ^ (S + 1)) : (Go.bits .and .u64 (a : Int) ((2 ^ S : Nat) : Int) = 0) ↔ ¬ 2 ^ S ≤ a := by
  have h := and_sign hS ha
  by_cases hc : 2 ^ S ≤ a
  · rw [decide_eq_true hc, bne_iff_ne] at h
    exact ⟨fun h2 => absurd h2 h, fun h2 => absurd hc h2⟩
  · rw [decide_eq_false hc, bne_eq_false_iff_eq] at h
    exact ⟨fun _ => hc, fun _ => h⟩
def cmpv (p q : Int) : Int := if p < q then -1 else if p > q then 1 else 0
def val (S a : Nat) : Int := if 2 ^ S ≤ a then -((a % 2 ^ S : Nat) : Int) else ((a % 2 ^ S : Nat) : Int)
theorem cls4 {I m : Nat} (hI : 0 < I) : cls I m = 4 ↔ I < m := by
  unfold cls
  by_cases h1 : m = 0
  · rw [if_pos h1]; constructor
    · intro h; exact absurd h (by decide)
    · intro h; omega
  · rw [if_neg h1]
    by_cases h2 : m < I
    · rw [if_pos h2]; constructor
      · intro h; exact absurd h (by decide)
      · intro h; omega
    · rw [if_neg h2]
      by_cases h3 : m = I
      · rw [if_pos h3]; constructor
        · intro h; exact absurd h (by decide)
        · intro h; omega
      · rw [if_neg h3]; constructor
        · intro _; omega
        · intro _; rfl
theorem j2_ok (k : Nat) (p q : Int) : bits_Compare.j2 (k + 1) p q = some (cmpv p q, none) := by
  rw [bits_Compare.j2]
  unfold cmpv
  by_cases h1 : p < q
  · rw [if_pos h1, if_pos h1]
  · rw [if_neg h1, if_neg h1]
    by_cases h2 : p > q
    · rw [if_pos h2, if_pos h2]
    · rw [if_neg h2, if_neg h2]
theorem mod_eq_iff {S a : Nat} (ha : a < 2 ^ (S + 1)) : ((a : Int) = ((a % 2 ^ S : Nat) : Int)) ↔ ¬ 2 ^ S ≤ a := by
  have h2 : 0 < 2 ^ S := Nat.two_pow_pos S
  have h3 : a % 2 ^ S < 2 ^ S := Nat.mod_lt _ h2
  constructor
  · intro h hc; omega
  · intro h; rw [Nat.mod_eq_of_lt (by omega)]
theorem mag_lt {S a : Nat} (hS : S ≤ 63) : a % 2 ^ S < 9223372036854775808 := by
  have h2 : 0 < 2 ^ S := Nat.two_pow_pos S
  have h3 : a % 2 ^ S < 2 ^ S := Nat.mod_lt _ h2
  have h4 : 2 ^ S ≤ 2 ^ 63 := Nat.pow_le_pow_right (by decide) hS
  omega
theorem Compare_ok {size F E S : Nat} {L : Int} {I : Nat} (h : IsFmt size F E S L I) {a b : Nat} (ha : a < 2 ^ (S + 1)) (hb : b < 2 ^ (S + 1)) (k : Nat) :
    bits_Compare.f (k + 3) a b size = some (if I < a % 2 ^ S ∨ I < b % 2 ^ S then 2 else cmpv (val S a) (val S b), none) := by
  obtain ⟨hI0, hI, hS⟩ := fmt_I h
  have ma := mag_lt (S := S) (a := a) hS
  have mb := mag_lt (S := S) (a := b) hS
  unfold bits_Compare.f
  rw [bind_eq (checked_ok h ha), if_pos (by rfl), bind_eq (checked_ok h hb), if_pos (by rfl), bind_eq (sign_ok h), bind_eq (sign_ok h), bind_eq (inf_ok h), mag_ok h ha, mag_ok h hb]
  by_cases h1 : I < a % 2 ^ S
  · rw [if_pos (by omega), if_pos (.inl h1)]
    rw [bits_Compare.j0]
    rw [if_pos rfl]
  · rw [if_neg (by omega), bind_eq (inf_ok h)]
    by_cases h2 : I < b % 2 ^ S
    · rw [if_pos (.inr h2), decide_eq_true (by omega)]
      rw [bits_Compare.j0]
      rw [if_pos rfl]
    · rw [if_neg (by omega), decide_eq_false (by omega)]
      rw [bits_Compare.j0, if_neg (by decide), bits_Compare.j1, bits_Compare.j1, wrapi_id (n := ((a % 2 ^ S : Nat) : Int)) (by omega) (by omega), wrapi_id (n := ((b % 2 ^ S : Nat) : Int)) (by omega) (by omega), wrapi_id (n := -((a % 2 ^ S : Nat) : Int)) (by omega) (by omega), wrapi_id (n := -((b % 2 ^ S : Nat) : Int)) (by omega) (by omega)]
      unfold val
      by_cases h3 : 2 ^ S ≤ a
      · rw [if_neg (by rw [mod_eq_iff ha]; simp [h3]), if_pos h3]
        by_cases h4 : 2 ^ S ≤ b
        · rw [if_neg (by rw [mod_eq_iff hb]; simp [h4]), if_pos h4, j2_ok]
        · rw [if_pos ((mod_eq_iff hb).2 h4), if_neg h4, j2_ok]
      · rw [if_pos ((mod_eq_iff ha).2 h3), if_neg h3]
        by_cases h4 : 2 ^ S ≤ b
        · rw [if_neg (by rw [mod_eq_iff hb]; simp [h4]), if_pos h4, j2_ok]
        · rw [if_pos ((mod_eq_iff hb).2 h4), if_neg h4, j2_ok]
/-- The next float and the one before: the answer, and the error's number (0: none). -/
def stepv (I m : Nat) (e : Int) (x : Int) (c : Int) : Int × Int := if cls I m = 4 then (0, 1) else if cls I m = c then (0, e) else (x, 0)
def err0 (c : Int) : Option Int := if c = 0 then none else some c
theorem Next_ok {size F E S : Nat} {L : Int} {I : Nat} (h : IsFmt size F E S L I) {a : Nat} (ha : a < 2 ^ (S + 1)) :
    bits_Next.f a size = some ((stepv I (a % 2 ^ S) 4 (IntKind.u64.wrap (a + 1)) 3).1, err0 (stepv I (a % 2 ^ S) 4 (IntKind.u64.wrap (a + 1)) 3).2) := by
  unfold bits_Next.f stepv
  rw [bind_eq (Class_ok h ha), if_pos (by rfl)]
  dsimp only
  by_cases h4 : cls I (a % 2 ^ S) = 4
  · rw [if_pos h4, if_pos h4]; rfl
  · rw [if_neg h4, if_neg h4]
    by_cases h3 : cls I (a % 2 ^ S) = 3
    · rw [if_pos h3, if_pos h3]; rfl
    · rw [if_neg h3, if_neg h3]; rfl
theorem Prev_ok {size F E S : Nat} {L : Int} {I : Nat} (h : IsFmt size F E S L I) {a : Nat} (ha : a < 2 ^ (S + 1)) :
    bits_Prev.f a size = some ((stepv I (a % 2 ^ S) 4 (IntKind.u64.wrap (a - 1)) 1).1, err0 (stepv I (a % 2 ^ S) 4 (IntKind.u64.wrap (a - 1)) 1).2) := by
  unfold bits_Prev.f stepv
  rw [bind_eq (Class_ok h ha), if_pos (by rfl)]
  dsimp only
  by_cases h4 : cls I (a % 2 ^ S) = 4
  · rw [if_pos h4, if_pos h4]; rfl
  · rw [if_neg h4, if_neg h4]
    by_cases h3 : cls I (a % 2 ^ S) = 1
    · rw [if_pos h3, if_pos h3]; rfl
    · rw [if_neg h3, if_neg h3]; rfl
end Go.Proofs.YtdddkkojgepnmaaDoor.XbB
