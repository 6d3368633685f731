
/- The formats of floats and their classes, by the printed functions of package bits and of the reference. -/
import Derived.Test.YtbnmchaldolpfaaDoorA
import Derived.Test.YtbnmchaldolpfaaDoorXsx1
import Derived.Test.YtbnmchaldolpfaaDoorXsx3
namespace Go.Proofs.YtbnmchaldolpfaaDoor.XsB
open Go.RowKit Go.Proofs.YtbnmchaldolpfaaDoor.Xs Go.Proofs.YtbnmchaldolpfaaDoor.A Go.Proofs.YtbnmchaldolpfaaDoorW.PrintWords Go.Proofs.YtbnmchaldolpfaaDoorW.PrintLast Go.Proofs.YtbnmchaldolpfaaDoorW.PrintMore
set_option linter.unusedSimpArgs false
set_option linter.unusedVariables false

/-- A size's numbers: the mantissa's bits, the exponent's, the sign's place, the least exponent, the infinity. -/
def IsFmt (size F E S : Nat) (L : Int) (I : Nat) : Prop :=
  (size = 32 ∧ F = 23 ∧ E = 8 ∧ S = 31 ∧ L = -149 ∧ I = 2139095040) ∨ (size = 64 ∧ F = 52 ∧ E = 11 ∧ S = 63 ∧ L = -1074 ∧ I = 9218868437227405312)
theorem fmt32 : IsFmt 32 23 8 31 (-149) 2139095040 := .inl ⟨rfl, rfl, rfl, rfl, rfl, rfl⟩
theorem fmt64 : IsFmt 64 52 11 63 (-1074) 9218868437227405312 := .inr ⟨rfl, rfl, rfl, rfl, rfl, rfl⟩

theorem bind_eq {α β : Type} {o : Option α} {a : α} {f : α → Option β} (h : o = some a) : o.bind f = f a := by rw [h]; rfl
theorem formatOf_ok {size F E S : Nat} {L : Int} {I : Nat} (h : IsFmt size F E S L I) : bits_formatOf.f size = some ((F : Int), (E : Int), none) := by
  rcases h with ⟨rfl, rfl, rfl, rfl, rfl, rfl⟩ | ⟨rfl, rfl, rfl, rfl, rfl, rfl⟩ <;> decide +kernel
theorem formatOf_bad {size : Int} (h1 : size ≠ 32) (h2 : size ≠ 64) : bits_formatOf.f size = some (0, 0, some 5) := by
  unfold bits_formatOf.f; rw [if_neg h1, if_neg h2]
theorem width_ok {size F E S : Nat} {L : Int} {I : Nat} (h : IsFmt size F E S L I) : bits_format_width.f F E = some ((S + 1 : Nat) : Int) := by
  rcases h with ⟨rfl, rfl, rfl, rfl, rfl, rfl⟩ | ⟨rfl, rfl, rfl, rfl, rfl, rfl⟩ <;> decide +kernel
theorem sign_ok {size F E S : Nat} {L : Int} {I : Nat} (h : IsFmt size F E S L I) : bits_format_sign.f F E = some ((2 ^ S : Nat) : Int) := by
  rcases h with ⟨rfl, rfl, rfl, rfl, rfl, rfl⟩ | ⟨rfl, rfl, rfl, rfl, rfl, rfl⟩ <;> decide +kernel
theorem inf_ok {size F E S : Nat} {L : Int} {I : Nat} (h : IsFmt size F E S L I) : bits_format_inf.f F E = some (I : Int) := by
  rcases h with ⟨rfl, rfl, rfl, rfl, rfl, rfl⟩ | ⟨rfl, rfl, rfl, rfl, rfl, rfl⟩ <;> decide +kernel
theorem least_ok {size F E S : Nat} {L : Int} {I : Nat} (h : IsFmt size F E S L I) : bits_format_least.f F E = some L := by
  rcases h with ⟨rfl, rfl, rfl, rfl, rfl, rfl⟩ | ⟨rfl, rfl, rfl, rfl, rfl, rfl⟩ <;> decide +kernel
def cls (I m : Nat) : Int := if m = 0 then 1 else if m < I then 2 else if m = I then 3 else 4
theorem mag_ok {size F E S : Nat} {L : Int} {I : Nat} (h : IsFmt size F E S L I) {a : Nat} (ha : a < 2 ^ (S + 1)) : Go.bits .andNot .u64 (a : Int) ((2 ^ S : Nat) : Int) = ((a % 2 ^ S : Nat) : Int) :=
  andNot_pow a S ha (by rcases h with ⟨_, _, _, rfl, _⟩ | ⟨_, _, _, rfl, _⟩ <;> omega)
/-- The parts of a finite float's magnitude. -/
def mantOf (F m : Nat) : Nat := if m / 2 ^ F = 0 then m % 2 ^ F else m % 2 ^ F + 2 ^ F
def expOf (F : Nat) (L : Int) (m : Nat) : Int := if m / 2 ^ F = 0 then L else L + ((m / 2 ^ F : Nat) : Int) - 1
def unp (F S : Nat) (L : Int) (I a : Nat) : Bool × Int × Int × Int :=
  let m := a % 2 ^ S
  if cls I m = 4 then (false, 4, 0, 0) else if cls I m = 2 then (decide (2 ^ S ≤ a), 2, (mantOf F m : Int), expOf F L m) else (decide (2 ^ S ≤ a), cls I m, 0, 0)
theorem neg_bne {a S : Nat} (ha : a < 2 ^ (S + 1)) : ((a : Int) != ((a % 2 ^ S : Nat) : Int)) = decide (2 ^ S ≤ a) := by
  have h2 : 0 < 2 ^ S := Nat.two_pow_pos S
  by_cases h : 2 ^ S ≤ a
  · have h3 : a % 2 ^ S < 2 ^ S := Nat.mod_lt _ h2
    rw [decide_eq_true h, bne_iff_ne]
    omega
  · rw [Nat.mod_eq_of_lt (by omega), decide_eq_false h, bne_self_eq_false]
theorem or_top (F x : Nat) (hF : F < 63) : Go.bits .or .u64 ((x % 2 ^ F : Nat) : Int) ((2 ^ F : Nat) : Int) = ((x % 2 ^ F + 2 ^ F : Nat) : Int) := by
  have h2 : 0 < 2 ^ F := Nat.two_pow_pos F
  have h3 : 2 ^ F ≤ 2 ^ 62 := Nat.pow_le_pow_right (by decide) (by omega)
  have h4 : x % 2 ^ F < 2 ^ F := Nat.mod_lt _ h2
  have := or_disj' 1 (x % 2 ^ F) F h4 (by omega)
  rw [Nat.one_mul, Nat.add_comm] at this
  exact this
end Go.Proofs.YtbnmchaldolpfaaDoor.XsB
