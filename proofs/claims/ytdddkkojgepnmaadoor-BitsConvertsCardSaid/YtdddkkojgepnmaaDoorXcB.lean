
/- The formats of floats and their classes, by the printed functions of package bits and of the reference. -/
import Derived.Test.YtdddkkojgepnmaaDoorA
import Derived.Test.YtdddkkojgepnmaaDoorXcx2
import Derived.Test.YtdddkkojgepnmaaDoorXcx3
namespace Go.Proofs.YtdddkkojgepnmaaDoor.XcB
open Go.RowKit Go.Proofs.YtdddkkojgepnmaaDoor.Xc Go.Proofs.YtdddkkojgepnmaaDoor.A Go.Proofs.YtdddkkojgepnmaaDoorW.PrintWords Go.Proofs.YtdddkkojgepnmaaDoorW.PrintLast Go.Proofs.YtdddkkojgepnmaaDoorW.PrintMore
set_option linter.unusedSimpArgs false
set_option linter.unusedVariables false

/-- A size's numbers: the mantissa's bits, the exponent's, the sign's place, the least exponent, the infinity. -/
def IsFmt (size F E S : Nat) (L : Int) (I : Nat) : Prop :=
  (size = 32 ∧ F = 23 ∧ E = 8 ∧ S = 31 ∧ L = -149 ∧ I = 2139095040) ∨ (size = 64 ∧ F = 52 ∧ E = 11 ∧ S = 63 ∧ L = -1074 ∧ I = 9218868437227405312)
theorem fmt32 : IsFmt 32 23 8 31 (-149) 2139095040 := .inl ⟨rfl, rfl, rfl, rfl, rfl, rfl⟩
theorem fmt64 : IsFmt 64 52 11 63 (-1074) 9218868437227405312 := .inr ⟨rfl, rfl, rfl, rfl, rfl, rfl⟩

theorem bind_eq {α β : Type} {o : Option α} {a : α} {f : α → Option β} (h : o = some a) : o.bind f = f a := by rw [h]; rfl
theorem formatOf_ok {size F E S : Nat} {L : Int} {I : Nat} (h : IsFmt size F E S L I) : bits_formatOf.f size = some ((F : Int), (E : Int), none) := by
  rcases h with ⟨rfl, rfl, rfl, rfl, rfl, rfl⟩ | ⟨rfl, rfl, rfl, rfl, rfl, rfl⟩ <;> decide +kernel
theorem formatOf_bad {size : Int} (h1 : size ≠ 32) (h2 : size ≠ 64) : bits_formatOf.f size = some (0, 0, some 5) := by
  unfold bits_formatOf.f; rw [if_neg h1, if_neg h2]
theorem width_ok {size F E S : Nat} {L : Int} {I : Nat} (h : IsFmt size F E S L I) : bits_format_width.f F E = some ((S + 1 : Nat) : Int) := by
  rcases h with ⟨rfl, rfl, rfl, rfl, rfl, rfl⟩ | ⟨rfl, rfl, rfl, rfl, rfl, rfl⟩ <;> decide +kernel
theorem sign_ok {size F E S : Nat} {L : Int} {I : Nat} (h : IsFmt size F E S L I) : bits_format_sign.f F E = some ((2 ^ S : Nat) : Int) := by
  rcases h with ⟨rfl, rfl, rfl, rfl, rfl, rfl⟩ | ⟨rfl, rfl, rfl, rfl, rfl, rfl⟩ <;> decide +kernel
theorem inf_ok {size F E S : Nat} {L : Int} {I : Nat} (h : IsFmt size F E S L I) : bits_format_inf.f F E = some (I : Int) := by
  rcases h with ⟨rfl, rfl, rfl, rfl, rfl, rfl⟩ | ⟨rfl, rfl, rfl, rfl, rfl, rfl⟩ <;> decide +kernel
theorem least_ok {size F E S : Nat} {L : Int} {I : Nat} (h : IsFmt size F E S L I) : bits_format_least.f F E = some L := by
  rcases h with ⟨rfl, rfl, rfl, rfl, rfl, rfl⟩ | ⟨rfl, rfl, rfl, rfl, rfl, rfl⟩ <;> decide +kernel
theorem checked_ok {size F E S : Nat} {L : Int} {I : Nat} (h : IsFmt size F E S L I) {a : Nat} (ha : a < 2 ^ (S + 1)) : bits_checked.f a size = some ((F : Int), (E : Int), none) := by
  unfold bits_checked.f
  rw [bind_eq (formatOf_ok h), if_pos (by rfl), bind_eq (width_ok h)]
  by_cases hw : ((S + 1 : Nat) : Int) < 64
  · rw [if_pos hw, bind_eq (width_ok h), if_pos (by omega), shr_u a (S + 1) (by omega), Nat.div_eq_of_lt ha, if_pos (by rfl)]
  · rw [if_neg hw]
theorem checked_big {a : Nat} (ha : 4294967296 ≤ a) : bits_checked.f a 32 = some (23, 8, some 1) := by
  unfold bits_checked.f
  have h1 := formatOf_ok fmt32
  have h2 := width_ok fmt32
  have h1' : bits_formatOf.f 32 = some (23, 8, none) := h1
  have h2' : bits_format_width.f 23 8 = some 32 := h2
  rw [bind_eq h1', if_pos (by rfl), bind_eq h2', if_pos (by decide), bind_eq h2', if_pos (by decide)]
  have h3 := shr_u a 32 (by omega)
  have h3' : shr .u64 (a : Int) 32 = ((a / 4294967296 : Nat) : Int) := h3
  rw [h3', if_neg (by omega)]
theorem checked_bad {a size : Int} (h1 : size ≠ 32) (h2 : size ≠ 64) : bits_checked.f a size = some (0, 0, some 5) := by
  unfold bits_checked.f
  rw [bind_eq (formatOf_bad h1 h2), if_neg (by simp)]
  rfl

def cls (I m : Nat) : Int := if m = 0 then 1 else if m < I then 2 else if m = I then 3 else 4
theorem class_ok {size F E S : Nat} {L : Int} {I : Nat} (h : IsFmt size F E S L I) (m : Nat) : bits_format_class.f F E m = some (cls I m) := by
  unfold bits_format_class.f cls
  rw [bind_eq (inf_ok h)]
  by_cases h1 : m = 0
  · simp [h1]
  · rw [if_neg h1, if_neg (by omega)]
    by_cases h2 : m < I
    · rw [if_pos h2, if_pos (by omega)]
    · rw [if_neg h2, if_neg (by omega)]
      by_cases h3 : m = I
      · rw [if_pos h3, if_pos (by omega)]
      · rw [if_neg h3, if_neg (by omega)]
theorem mag_ok {size F E S : Nat} {L : Int} {I : Nat} (h : IsFmt size F E S L I) {a : Nat} (ha : a < 2 ^ (S + 1)) : Go.bits .andNot .u64 (a : Int) ((2 ^ S : Nat) : Int) = ((a % 2 ^ S : Nat) : Int) :=
  andNot_pow a S ha (by rcases h with ⟨_, _, _, rfl, _⟩ | ⟨_, _, _, rfl, _⟩ <;> omega)
/-- The parts of a finite float's magnitude. -/
def mantOf (F m : Nat) : Nat := if m / 2 ^ F = 0 then m % 2 ^ F else m % 2 ^ F + 2 ^ F
def expOf (F : Nat) (L : Int) (m : Nat) : Int := if m / 2 ^ F = 0 then L else L + ((m / 2 ^ F : Nat) : Int) - 1
def unp (F S : Nat) (L : Int) (I a : Nat) : Bool × Int × Int × Int :=
  let m := a % 2 ^ S
  if cls I m = 4 then (false, 4, 0, 0) else if cls I m = 2 then (decide (2 ^ S ≤ a), 2, (mantOf F m : Int), expOf F L m) else (decide (2 ^ S ≤ a), cls I m, 0, 0)
theorem neg_bne {a S : Nat} (ha : a < 2 ^ (S + 1)) : ((a : Int) != ((a % 2 ^ S : Nat) : Int)) = decide (2 ^ S ≤ a) := by
  have h2 : 0 < 2 ^ S := Nat.two_pow_pos S
  by_cases h : 2 ^ S ≤ a
  · have h3 : a % 2 ^ S < 2 ^ S := Nat.mod_lt _ h2
    rw [decide_eq_true h, bne_iff_ne]
    omega
  · rw [Nat.mod_eq_of_lt (by omega), decide_eq_false h, bne_self_eq_false]
theorem or_top (F x : Nat) (hF : F < 63) : Go.bits .or .u64 ((x % 2 ^ F : Nat) : Int) ((2 ^ F : Nat) : Int) = ((x % 2 ^ F + 2 ^ F : Nat) : Int) := by
  have h2 : 0 < 2 ^ F := Nat.two_pow_pos F
  have h3 : 2 ^ F ≤ 2 ^ 62 := Nat.pow_le_pow_right (by decide) (by omega)
  have h4 : x % 2 ^ F < 2 ^ F := Nat.mod_lt _ h2
  have := or_disj' 1 (x % 2 ^ F) F h4 (by omega)
  rw [Nat.one_mul, Nat.add_comm] at this
  exact this
theorem Unpack_ok {size F E S : Nat} {L : Int} {I : Nat} (h : IsFmt size F E S L I) {a : Nat} (ha : a < 2 ^ (S + 1)) :
    bits_Unpack.f a size = some ((unp F S L I a).1, (unp F S L I a).2.1, (unp F S L I a).2.2.1, (unp F S L I a).2.2.2, none) := by
  have hF : F < 63 := by rcases h with ⟨_, rfl, _⟩ | ⟨_, rfl, _⟩ <;> omega
  have hS : S + 1 ≤ 64 := by rcases h with ⟨_, _, _, rfl, _⟩ | ⟨_, _, _, rfl, _⟩ <;> omega
  have hL : L = -149 ∨ L = -1074 := by rcases h with ⟨_, _, _, _, rfl, _⟩ | ⟨_, _, _, _, rfl, _⟩ <;> simp
  have ha64 := pow_le64 hS
  have hm : a % 2 ^ S ≤ a := Nat.mod_le _ _
  unfold bits_Unpack.f
  rw [bind_eq (checked_ok h ha), if_pos (by rfl), bind_eq (sign_ok h), mag_ok h ha, bind_eq (class_ok h _)]
  generalize hm0 : a % 2 ^ S = m at *
  have hn : ((a : Int) != (m : Int)) = decide (2 ^ S ≤ a) := by rw [← hm0]; exact neg_bne ha
  unfold unp
  rw [hm0]
  dsimp only
  by_cases h4 : cls I m = 4
  · rw [if_pos h4, if_pos h4, h4]
  · rw [if_neg h4, if_neg h4]
    by_cases h2 : cls I m = 2
    · have hdl : m / 2 ^ F ≤ m / 2 ^ 23 := by
        apply Nat.div_le_div_left
        · exact Nat.pow_le_pow_right (by decide) (by rcases h with ⟨_, rfl, _⟩ | ⟨_, rfl, _⟩ <;> omega)
        · exact Nat.two_pow_pos _
      have hd : m / 2 ^ F < 4398046511104 := by omega
      generalize hq : m / 2 ^ F = q at *
      rw [if_pos h2, if_pos h2, if_pos (by omega), bind_eq (least_ok h), shr_u _ F (by omega), hq, wrapi_id (n := (q : Int)) (by omega) (by omega)]
      unfold mantOf expOf
      rw [hq, h2, hn]
      by_cases h0 : q = 0
      · rw [if_neg (by omega), if_pos h0, if_pos h0, mask_u F (by omega), and_mask _ F (by omega) (by omega)]
      · rw [if_pos (by omega), if_neg h0, if_neg h0, bind_eq (least_ok h), mask_u F (by omega), and_mask _ F (by omega) (by omega), shl1 F (by omega), or_top F _ hF, wrapi_id (n := L + (q : Int)) (by omega) (by omega), wrapi_id (by omega) (by omega)]
    · rw [if_neg h2, if_neg h2, hn]
theorem Unpack_big {a : Nat} (ha : 4294967296 ≤ a) : bits_Unpack.f a 32 = some (false, 0, 0, 0, some 1) := by
  unfold bits_Unpack.f; rw [bind_eq (checked_big ha), if_neg (by simp)]; rfl
theorem Unpack_bad {a size : Int} (h1 : size ≠ 32) (h2 : size ≠ 64) : bits_Unpack.f a size = some (false, 0, 0, 0, some 5) := by
  unfold bits_Unpack.f; rw [bind_eq (checked_bad h1 h2), if_neg (by simp)]; rfl
end Go.Proofs.YtdddkkojgepnmaaDoor.XcB
