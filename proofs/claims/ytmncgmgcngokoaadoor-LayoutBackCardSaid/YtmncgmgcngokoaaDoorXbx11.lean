-- PRINTED by print.py (a twelfth state) out of the translation. Not trusted: Lean checks it.
import Derived.Test.YtmncgmgcngokoaaDoorXbx0
import Derived.Test.YtmncgmgcngokoaaDoorXbx6
import Derived.Test.YtmncgmgcngokoaaDoorXbx7
import Derived.Test.YtmncgmgcngokoaaDoorXbx8
import Derived.Test.YtmncgmgcngokoaaDoorXbx10
namespace Go.Proofs.YtmncgmgcngokoaaDoor.Xb
open Go.RowKit Go.Proofs.YtmncgmgcngokoaaDoorW.PrintWords Go.Proofs.YtmncgmgcngokoaaDoorW.PrintLast Go.Proofs.YtmncgmgcngokoaaDoorW.PrintMore
attribute [local go_sem] max2_int min2_int max_two min_two max_three min_three max_four min_four   -- for this text's walks alone
set_option linter.unusedVariables false
set_option linter.unusedSimpArgs false

/-! ### numeralref10_Prefix: function 26 -/
mutual
def numeralref10_Prefix.j0 : Nat → ByteArray → Int → Bool → Bool → Int → ByteArray → Int → Bool → Int → Int → Bool → Option (Bool × Int × ByteArray × Int × Bool × Int × Int × Bool × Int × Int)
  | 0, _, _, _, _, _, _, _, _, _, _, _ => none
  | k + 1, x0, x6, x33, x221000, x221001, x221002, x221003, x221004, x221005, x221006, x221007 => if x33 = true then (numeralref10_Prefix.j1 k x0 1 x221000 x221001 x221002 x221003 x221004 x221005 x221006 x221007) else (numeralref10_Prefix.j1 k x0 x6 x221000 x221001 x221002 x221003 x221004 x221005 x221006 x221007)
def numeralref10_Prefix.j1 : Nat → ByteArray → Int → Bool → Int → ByteArray → Int → Bool → Int → Int → Bool → Option (Bool × Int × ByteArray × Int × Bool × Int × Int × Bool × Int × Int)
  | 0, _, _, _, _, _, _, _, _, _, _ => none
  | k + 1, x0, x6, x221000, x221001, x221002, x221003, x221004, x221005, x221006, x221007 => if x6 = 0 then ((numeralref10_word.f k x0 0 (⟨#[110, 97, 110]⟩ : ByteArray)).bind fun t222 => (numeralref10_Prefix.j2 k x0 x6 t222 x221000 x221001 x221002 x221003 x221004 x221005 x221006 x221007)) else (numeralref10_Prefix.j2 k x0 x6 false x221000 x221001 x221002 x221003 x221004 x221005 x221006 x221007)
def numeralref10_Prefix.j2 : Nat → ByteArray → Int → Bool → Bool → Int → ByteArray → Int → Bool → Int → Int → Bool → Option (Bool × Int × ByteArray × Int × Bool × Int × Int × Bool × Int × Int)
  | 0, _, _, _, _, _, _, _, _, _, _, _ => none
  | k + 1, x0, x6, x34, x221000, x221001, x221002, x221003, x221004, x221005, x221006, x221007 => if x34 = true then (some (false, 4, (⟨#[]⟩ : ByteArray), 0, false, 0, 0, false, 3, 0)) else ((numeralref10_word.f k x0 x6 (⟨#[105, 110, 102, 105, 110, 105, 116, 121]⟩ : ByteArray)).bind fun t223 => (if t223 = true then (some (x221000, 3, x221002, x221003, x221004, x221005, x221006, x221007, wrap64 (x6 + 8), 0)) else ((numeralref10_word.f k x0 x6 (⟨#[105, 110, 102]⟩ : ByteArray)).bind fun t224 => (if t224 = true then (some (x221000, 3, x221002, x221003, x221004, x221005, x221006, x221007, wrap64 (x6 + 3), 0)) else ((numeralref10_at.f x0 x6).bind fun t225 => (if t225 = 48 then ((numeralref10_at.f x0 (wrap64 (x6 + 1))).bind fun t226 => ((numeralref10_small.f t226).bind fun t227 => (numeralref10_Prefix.j3 k x0 x6 (t227 == 120) x221000 x221001 x221002 x221003 x221004 x221005 x221006 x221007))) else (numeralref10_Prefix.j3 k x0 x6 false x221000 x221001 x221002 x221003 x221004 x221005 x221006 x221007)))))))
def numeralref10_Prefix.j3 : Nat → ByteArray → Int → Bool → Bool → Int → ByteArray → Int → Bool → Int → Int → Bool → Option (Bool × Int × ByteArray × Int × Bool × Int × Int × Bool × Int × Int)
  | 0, _, _, _, _, _, _, _, _, _, _, _ => none
  | k + 1, x0, x6, x69, x221000, x221001, x221002, x221003, x221004, x221005, x221006, x221007 => if x69 = true then ((numeralref10_mantissa.f k x0 (wrap64 (x6 + 2)) true).bind fun bt228 => (if bt228.2.2.2 = true then ((numeralref10_at.f x0 bt228.2.2.1).bind fun t232 => ((numeralref10_small.f t232).bind fun t233 => (numeralref10_Prefix.j4 k x0 x6 bt228.1 bt228.2.1 bt228.2.2.1 (t233 == 112) x221000 x221001 x221002 x221003 x221004 x221005 x221006 x221007))) else (numeralref10_Prefix.j4 k x0 x6 bt228.1 bt228.2.1 bt228.2.2.1 false x221000 x221001 x221002 x221003 x221004 x221005 x221006 x221007))) else (numeralref10_Prefix.j5 k x0 x6 x221000 x221001 x221002 x221003 x221004 x221005 x221006 x221007)
def numeralref10_Prefix.j5 : Nat → ByteArray → Int → Bool → Int → ByteArray → Int → Bool → Int → Int → Bool → Option (Bool × Int × ByteArray × Int × Bool × Int × Int × Bool × Int × Int)
  | 0, _, _, _, _, _, _, _, _, _, _ => none
  | k + 1, x0, x6, x221000, x221001, x221002, x221003, x221004, x221005, x221006, x221007 => (numeralref10_mantissa.f k x0 x6 false).bind fun bt246 => (if bt246.2.2.2 = true then ((numeralref10_at.f x0 bt246.2.2.1).bind fun t250 => ((numeralref10_small.f t250).bind fun t251 => (if t251 = 101 then ((numeralref10_exponent.f k x0 (wrap64 (bt246.2.2.1 + 1))).bind fun bt252 => (if bt252.2.2 = true then ((numeralref10_Dec.f k bt246.1 bt246.2.1 bt252.1).bind fun bt255 => (some (x221000, 1, bt255.1, bt255.2.1, bt255.2.2, x221005, x221006, x221007, bt252.2.1, 0))) else ((numeralref10_Dec.f k bt246.1 bt246.2.1 0).bind fun bt258 => (some (x221000, 1, bt258.1, bt258.2.1, bt258.2.2, x221005, x221006, x221007, bt246.2.2.1, 0))))) else ((numeralref10_Dec.f k bt246.1 bt246.2.1 0).bind fun bt261 => (some (x221000, 1, bt261.1, bt261.2.1, bt261.2.2, x221005, x221006, x221007, bt246.2.2.1, 0)))))) else (some (false, 0, (⟨#[]⟩ : ByteArray), 0, false, 0, 0, false, 0, 3)))
def numeralref10_Prefix.j4 : Nat → ByteArray → Int → ByteArray → ByteArray → Int → Bool → Bool → Int → ByteArray → Int → Bool → Int → Int → Bool → Option (Bool × Int × ByteArray × Int × Bool × Int × Int × Bool × Int × Int)
  | 0, _, _, _, _, _, _, _, _, _, _, _, _, _, _ => none
  | k + 1, x0, x6, x7, x8, x9, x86, x221000, x221001, x221002, x221003, x221004, x221005, x221006, x221007 => if x86 = true then ((numeralref10_exponent.f k x0 (wrap64 (x9 + 1))).bind fun bt234 => (if bt234.2.2 = true then ((numeralref10_hexa.f x7 x8 bt234.1).bind fun bt237 => (some (x221000, bt237.2.1, bt237.2.2.1, bt237.2.2.2.1, bt237.2.2.2.2.1, bt237.2.2.2.2.2.1, bt237.2.2.2.2.2.2.1, bt237.2.2.2.2.2.2.2, bt234.2.1, 0))) else (numeralref10_Prefix.j5 k x0 x6 x221000 x221001 x221002 x221003 x221004 x221005 x221006 x221007))) else (numeralref10_Prefix.j5 k x0 x6 x221000 x221001 x221002 x221003 x221004 x221005 x221006 x221007)
end
def numeralref10_Prefix.f (k : Nat) (a0 : ByteArray) : Option (Bool × Int × ByteArray × Int × Bool × Int × Int × Bool × Int × Int) := (numeralref10_at.f a0 0).bind fun t219 => (if t219 = 45 then (numeralref10_Prefix.j0 k a0 0 true (t219 == 45) 0 (⟨#[]⟩ : ByteArray) 0 false 0 0 false) else ((numeralref10_at.f a0 0).bind fun t221 => (numeralref10_Prefix.j0 k a0 0 (t221 == 43) (t219 == 45) 0 (⟨#[]⟩ : ByteArray) 0 false 0 0 false)))
theorem numeralref10_Prefix.mono_l : ∀ k, (∀ y0 y1 y2 y3 y4 y5 y6 y7 y8 y9 y10, LeO (numeralref10_Prefix.j0 k y0 y1 y2 y3 y4 y5 y6 y7 y8 y9 y10) (numeralref10_Prefix.j0 (k + 1) y0 y1 y2 y3 y4 y5 y6 y7 y8 y9 y10)) ∧ (∀ y0 y1 y2 y3 y4 y5 y6 y7 y8 y9, LeO (numeralref10_Prefix.j1 k y0 y1 y2 y3 y4 y5 y6 y7 y8 y9) (numeralref10_Prefix.j1 (k + 1) y0 y1 y2 y3 y4 y5 y6 y7 y8 y9)) ∧ (∀ y0 y1 y2 y3 y4 y5 y6 y7 y8 y9 y10, LeO (numeralref10_Prefix.j2 k y0 y1 y2 y3 y4 y5 y6 y7 y8 y9 y10) (numeralref10_Prefix.j2 (k + 1) y0 y1 y2 y3 y4 y5 y6 y7 y8 y9 y10)) ∧ (∀ y0 y1 y2 y3 y4 y5 y6 y7 y8 y9 y10, LeO (numeralref10_Prefix.j3 k y0 y1 y2 y3 y4 y5 y6 y7 y8 y9 y10) (numeralref10_Prefix.j3 (k + 1) y0 y1 y2 y3 y4 y5 y6 y7 y8 y9 y10)) ∧ (∀ y0 y1 y2 y3 y4 y5 y6 y7 y8 y9, LeO (numeralref10_Prefix.j5 k y0 y1 y2 y3 y4 y5 y6 y7 y8 y9) (numeralref10_Prefix.j5 (k + 1) y0 y1 y2 y3 y4 y5 y6 y7 y8 y9)) ∧ (∀ y0 y1 y2 y3 y4 y5 y6 y7 y8 y9 y10 y11 y12 y13, LeO (numeralref10_Prefix.j4 k y0 y1 y2 y3 y4 y5 y6 y7 y8 y9 y10 y11 y12 y13) (numeralref10_Prefix.j4 (k + 1) y0 y1 y2 y3 y4 y5 y6 y7 y8 y9 y10 y11 y12 y13))
  | 0 => ⟨fun _ _ _ _ _ _ _ _ _ _ _ r h => by simp [numeralref10_Prefix.j0] at h, fun _ _ _ _ _ _ _ _ _ _ r h => by simp [numeralref10_Prefix.j1] at h, fun _ _ _ _ _ _ _ _ _ _ _ r h => by simp [numeralref10_Prefix.j2] at h, fun _ _ _ _ _ _ _ _ _ _ _ r h => by simp [numeralref10_Prefix.j3] at h, fun _ _ _ _ _ _ _ _ _ _ r h => by simp [numeralref10_Prefix.j5] at h, fun _ _ _ _ _ _ _ _ _ _ _ _ _ _ r h => by simp [numeralref10_Prefix.j4] at h⟩
  | k + 1 => by
    obtain ⟨ih0, ih1, ih2, ih3, ih4, ih5⟩ := numeralref10_Prefix.mono_l k
    refine ⟨?_, ?_, ?_, ?_, ?_, ?_⟩
    · intro y0 y1 y2 y3 y4 y5 y6 y7 y8 y9 y10
      unfold numeralref10_Prefix.j0
      repeat' first
      | (with_reducible exact ih0 _ _ _ _ _ _ _ _ _ _ _)
      | (with_reducible exact ih1 _ _ _ _ _ _ _ _ _ _)
      | (with_reducible exact ih2 _ _ _ _ _ _ _ _ _ _ _)
      | (with_reducible exact ih3 _ _ _ _ _ _ _ _ _ _ _)
      | (with_reducible exact ih4 _ _ _ _ _ _ _ _ _ _)
      | (with_reducible exact ih5 _ _ _ _ _ _ _ _ _ _ _ _ _ _)
      | (with_reducible exact numeralref10_Dec.mono _ _ _ _)
      | (with_reducible exact numeralref10_exponent.mono _ _ _)
      | (with_reducible exact numeralref10_mantissa.mono _ _ _ _)
      | (with_reducible exact numeralref10_word.mono _ _ _ _)
      | (with_reducible exact LeO.refl _)
      | (with_reducible exact LeO.none _)
      | (with_reducible refine LeO.ite ?_ ?_)
      | (with_reducible refine LeO.bind ?_ (fun _ => ?_))
      | exact ih0 _ _ _ _ _ _ _ _ _ _ _
      | exact ih1 _ _ _ _ _ _ _ _ _ _
      | exact ih2 _ _ _ _ _ _ _ _ _ _ _
      | exact ih3 _ _ _ _ _ _ _ _ _ _ _
      | exact ih4 _ _ _ _ _ _ _ _ _ _
      | exact ih5 _ _ _ _ _ _ _ _ _ _ _ _ _ _
      | exact numeralref10_Dec.mono _ _ _ _
      | exact numeralref10_exponent.mono _ _ _
      | exact numeralref10_mantissa.mono _ _ _ _
      | exact numeralref10_word.mono _ _ _ _
      | exact LeO.none _
      | refine LeO.ite ?_ ?_
      | refine LeO.bind ?_ (fun _ => ?_)
    · intro y0 y1 y2 y3 y4 y5 y6 y7 y8 y9
      unfold numeralref10_Prefix.j1
      repeat' first
      | (with_reducible exact ih0 _ _ _ _ _ _ _ _ _ _ _)
      | (with_reducible exact ih1 _ _ _ _ _ _ _ _ _ _)
      | (with_reducible exact ih2 _ _ _ _ _ _ _ _ _ _ _)
      | (with_reducible exact ih3 _ _ _ _ _ _ _ _ _ _ _)
      | (with_reducible exact ih4 _ _ _ _ _ _ _ _ _ _)
      | (with_reducible exact ih5 _ _ _ _ _ _ _ _ _ _ _ _ _ _)
      | (with_reducible exact numeralref10_Dec.mono _ _ _ _)
      | (with_reducible exact numeralref10_exponent.mono _ _ _)
      | (with_reducible exact numeralref10_mantissa.mono _ _ _ _)
      | (with_reducible exact numeralref10_word.mono _ _ _ _)
      | (with_reducible exact LeO.refl _)
      | (with_reducible exact LeO.none _)
      | (with_reducible refine LeO.ite ?_ ?_)
      | (with_reducible refine LeO.bind ?_ (fun _ => ?_))
      | exact ih0 _ _ _ _ _ _ _ _ _ _ _
      | exact ih1 _ _ _ _ _ _ _ _ _ _
      | exact ih2 _ _ _ _ _ _ _ _ _ _ _
      | exact ih3 _ _ _ _ _ _ _ _ _ _ _
      | exact ih4 _ _ _ _ _ _ _ _ _ _
      | exact ih5 _ _ _ _ _ _ _ _ _ _ _ _ _ _
      | exact numeralref10_Dec.mono _ _ _ _
      | exact numeralref10_exponent.mono _ _ _
      | exact numeralref10_mantissa.mono _ _ _ _
      | exact numeralref10_word.mono _ _ _ _
      | exact LeO.none _
      | refine LeO.ite ?_ ?_
      | refine LeO.bind ?_ (fun _ => ?_)
    · intro y0 y1 y2 y3 y4 y5 y6 y7 y8 y9 y10
      unfold numeralref10_Prefix.j2
      repeat' first
      | (with_reducible exact ih0 _ _ _ _ _ _ _ _ _ _ _)
      | (with_reducible exact ih1 _ _ _ _ _ _ _ _ _ _)
      | (with_reducible exact ih2 _ _ _ _ _ _ _ _ _ _ _)
      | (with_reducible exact ih3 _ _ _ _ _ _ _ _ _ _ _)
      | (with_reducible exact ih4 _ _ _ _ _ _ _ _ _ _)
      | (with_reducible exact ih5 _ _ _ _ _ _ _ _ _ _ _ _ _ _)
      | (with_reducible exact numeralref10_Dec.mono _ _ _ _)
      | (with_reducible exact numeralref10_exponent.mono _ _ _)
      | (with_reducible exact numeralref10_mantissa.mono _ _ _ _)
      | (with_reducible exact numeralref10_word.mono _ _ _ _)
      | (with_reducible exact LeO.refl _)
      | (with_reducible exact LeO.none _)
      | (with_reducible refine LeO.ite ?_ ?_)
      | (with_reducible refine LeO.bind ?_ (fun _ => ?_))
      | exact ih0 _ _ _ _ _ _ _ _ _ _ _
      | exact ih1 _ _ _ _ _ _ _ _ _ _
      | exact ih2 _ _ _ _ _ _ _ _ _ _ _
      | exact ih3 _ _ _ _ _ _ _ _ _ _ _
      | exact ih4 _ _ _ _ _ _ _ _ _ _
      | exact ih5 _ _ _ _ _ _ _ _ _ _ _ _ _ _
      | exact numeralref10_Dec.mono _ _ _ _
      | exact numeralref10_exponent.mono _ _ _
      | exact numeralref10_mantissa.mono _ _ _ _
      | exact numeralref10_word.mono _ _ _ _
      | exact LeO.none _
      | refine LeO.ite ?_ ?_
      | refine LeO.bind ?_ (fun _ => ?_)
    · intro y0 y1 y2 y3 y4 y5 y6 y7 y8 y9 y10
      unfold numeralref10_Prefix.j3
      repeat' first
      | (with_reducible exact ih0 _ _ _ _ _ _ _ _ _ _ _)
      | (with_reducible exact ih1 _ _ _ _ _ _ _ _ _ _)
      | (with_reducible exact ih2 _ _ _ _ _ _ _ _ _ _ _)
      | (with_reducible exact ih3 _ _ _ _ _ _ _ _ _ _ _)
      | (with_reducible exact ih4 _ _ _ _ _ _ _ _ _ _)
      | (with_reducible exact ih5 _ _ _ _ _ _ _ _ _ _ _ _ _ _)
      | (with_reducible exact numeralref10_Dec.mono _ _ _ _)
      | (with_reducible exact numeralref10_exponent.mono _ _ _)
      | (with_reducible exact numeralref10_mantissa.mono _ _ _ _)
      | (with_reducible exact numeralref10_word.mono _ _ _ _)
      | (with_reducible exact LeO.refl _)
      | (with_reducible exact LeO.none _)
      | (with_reducible refine LeO.ite ?_ ?_)
      | (with_reducible refine LeO.bind ?_ (fun _ => ?_))
      | exact ih0 _ _ _ _ _ _ _ _ _ _ _
      | exact ih1 _ _ _ _ _ _ _ _ _ _
      | exact ih2 _ _ _ _ _ _ _ _ _ _ _
      | exact ih3 _ _ _ _ _ _ _ _ _ _ _
      | exact ih4 _ _ _ _ _ _ _ _ _ _
      | exact ih5 _ _ _ _ _ _ _ _ _ _ _ _ _ _
      | exact numeralref10_Dec.mono _ _ _ _
      | exact numeralref10_exponent.mono _ _ _
      | exact numeralref10_mantissa.mono _ _ _ _
      | exact numeralref10_word.mono _ _ _ _
      | exact LeO.none _
      | refine LeO.ite ?_ ?_
      | refine LeO.bind ?_ (fun _ => ?_)
    · intro y0 y1 y2 y3 y4 y5 y6 y7 y8 y9
      unfold numeralref10_Prefix.j5
      repeat' first
      | (with_reducible exact ih0 _ _ _ _ _ _ _ _ _ _ _)
      | (with_reducible exact ih1 _ _ _ _ _ _ _ _ _ _)
      | (with_reducible exact ih2 _ _ _ _ _ _ _ _ _ _ _)
      | (with_reducible exact ih3 _ _ _ _ _ _ _ _ _ _ _)
      | (with_reducible exact ih4 _ _ _ _ _ _ _ _ _ _)
      | (with_reducible exact ih5 _ _ _ _ _ _ _ _ _ _ _ _ _ _)
      | (with_reducible exact numeralref10_Dec.mono _ _ _ _)
      | (with_reducible exact numeralref10_exponent.mono _ _ _)
      | (with_reducible exact numeralref10_mantissa.mono _ _ _ _)
      | (with_reducible exact numeralref10_word.mono _ _ _ _)
      | (with_reducible exact LeO.refl _)
      | (with_reducible exact LeO.none _)
      | (with_reducible refine LeO.ite ?_ ?_)
      | (with_reducible refine LeO.bind ?_ (fun _ => ?_))
      | exact ih0 _ _ _ _ _ _ _ _ _ _ _
      | exact ih1 _ _ _ _ _ _ _ _ _ _
      | exact ih2 _ _ _ _ _ _ _ _ _ _ _
      | exact ih3 _ _ _ _ _ _ _ _ _ _ _
      | exact ih4 _ _ _ _ _ _ _ _ _ _
      | exact ih5 _ _ _ _ _ _ _ _ _ _ _ _ _ _
      | exact numeralref10_Dec.mono _ _ _ _
      | exact numeralref10_exponent.mono _ _ _
      | exact numeralref10_mantissa.mono _ _ _ _
      | exact numeralref10_word.mono _ _ _ _
      | exact LeO.none _
      | refine LeO.ite ?_ ?_
      | refine LeO.bind ?_ (fun _ => ?_)
    · intro y0 y1 y2 y3 y4 y5 y6 y7 y8 y9 y10 y11 y12 y13
      unfold numeralref10_Prefix.j4
      repeat' first
      | (with_reducible exact ih0 _ _ _ _ _ _ _ _ _ _ _)
      | (with_reducible exact ih1 _ _ _ _ _ _ _ _ _ _)
      | (with_reducible exact ih2 _ _ _ _ _ _ _ _ _ _ _)
      | (with_reducible exact ih3 _ _ _ _ _ _ _ _ _ _ _)
      | (with_reducible exact ih4 _ _ _ _ _ _ _ _ _ _)
      | (with_reducible exact ih5 _ _ _ _ _ _ _ _ _ _ _ _ _ _)
      | (with_reducible exact numeralref10_Dec.mono _ _ _ _)
      | (with_reducible exact numeralref10_exponent.mono _ _ _)
      | (with_reducible exact numeralref10_mantissa.mono _ _ _ _)
      | (with_reducible exact numeralref10_word.mono _ _ _ _)
      | (with_reducible exact LeO.refl _)
      | (with_reducible exact LeO.none _)
      | (with_reducible refine LeO.ite ?_ ?_)
      | (with_reducible refine LeO.bind ?_ (fun _ => ?_))
      | exact ih0 _ _ _ _ _ _ _ _ _ _ _
      | exact ih1 _ _ _ _ _ _ _ _ _ _
      | exact ih2 _ _ _ _ _ _ _ _ _ _ _
      | exact ih3 _ _ _ _ _ _ _ _ _ _ _
      | exact ih4 _ _ _ _ _ _ _ _ _ _
      | exact ih5 _ _ _ _ _ _ _ _ _ _ _ _ _ _
      | exact numeralref10_Dec.mono _ _ _ _
      | exact numeralref10_exponent.mono _ _ _
      | exact numeralref10_mantissa.mono _ _ _ _
      | exact numeralref10_word.mono _ _ _ _
      | exact LeO.none _
      | refine LeO.ite ?_ ?_
      | refine LeO.bind ?_ (fun _ => ?_)
theorem numeralref10_Prefix.mono : ∀ a0 k, LeO (numeralref10_Prefix.f k a0) (numeralref10_Prefix.f (k + 1) a0) := by
  intro a0 k
  obtain ⟨ih0, ih1, ih2, ih3, ih4, ih5⟩ := numeralref10_Prefix.mono_l k
  unfold numeralref10_Prefix.f
  repeat' first
      | (with_reducible exact ih0 _ _ _ _ _ _ _ _ _ _ _)
      | (with_reducible exact ih1 _ _ _ _ _ _ _ _ _ _)
      | (with_reducible exact ih2 _ _ _ _ _ _ _ _ _ _ _)
      | (with_reducible exact ih3 _ _ _ _ _ _ _ _ _ _ _)
      | (with_reducible exact ih4 _ _ _ _ _ _ _ _ _ _)
      | (with_reducible exact ih5 _ _ _ _ _ _ _ _ _ _ _ _ _ _)
      | (with_reducible exact numeralref10_Dec.mono _ _ _ _)
      | (with_reducible exact numeralref10_exponent.mono _ _ _)
      | (with_reducible exact numeralref10_mantissa.mono _ _ _ _)
      | (with_reducible exact numeralref10_word.mono _ _ _ _)
      | (with_reducible exact LeO.refl _)
      | (with_reducible exact LeO.none _)
      | (with_reducible refine LeO.ite ?_ ?_)
      | (with_reducible refine LeO.bind ?_ (fun _ => ?_))
      | exact ih0 _ _ _ _ _ _ _ _ _ _ _
      | exact ih1 _ _ _ _ _ _ _ _ _ _
      | exact ih2 _ _ _ _ _ _ _ _ _ _ _
      | exact ih3 _ _ _ _ _ _ _ _ _ _ _
      | exact ih4 _ _ _ _ _ _ _ _ _ _
      | exact ih5 _ _ _ _ _ _ _ _ _ _ _ _ _ _
      | exact numeralref10_Dec.mono _ _ _ _
      | exact numeralref10_exponent.mono _ _ _
      | exact numeralref10_mantissa.mono _ _ _ _
      | exact numeralref10_word.mono _ _ _ _
      | exact LeO.none _
      | refine LeO.ite ?_ ?_
      | refine LeO.bind ?_ (fun _ => ?_)
set_option maxHeartbeats 8000000 in
set_option maxRecDepth 100000 in
theorem numeralref10_Prefix.calls (k : Nat) (a0 : ByteArray) (r1 : Bool) (r2 : Int) (r3 : ByteArray) (r4 : Int) (r5 : Bool) (r6 : Int) (r7 : Int) (r8 : Bool) (r9 : Int) (r10 : Int) (w : World) (h : numeralref10_Prefix.f k a0 = some (r1, r2, r3, r4, r5, r6, r7, r8, r9, r10)) :
    Calls Tryd.prog 26 #[.string a0] w fun e w' => e = .returned (.tuple #[.agg #[.bool r1, .int .i64 r2, .string r3, .int .i64 r4, .bool r5, .int .u64 r6, .int .i64 r7, .bool r8], .int .i64 r9, .int .i64 r10]) ∧ Below w.heap.size w w' := by
  have hu43 := Tryd.underlying43
  have hu23 := Tryd.underlying23
  have HB := Aside0.mk (Below.refl w.heap.size w)
  have H : ((numeralref10_at.f a0 0).bind fun t219 => (if t219 = 45 then (numeralref10_Prefix.j0 k a0 0 true (t219 == 45) 0 (⟨#[]⟩ : ByteArray) 0 false 0 0 false) else ((numeralref10_at.f a0 0).bind fun t221 => (numeralref10_Prefix.j0 k a0 0 (t221 == 43) (t219 == 45) 0 (⟨#[]⟩ : ByteArray) 0 false 0 0 false)))) = some (r1, r2, r3, r4, r5, r6, r7, r8, r9, r10) := h
  clear h
  replace H := Option.bind_eq_some_iff.mp H
  obtain ⟨t219, A20, H⟩ := H
  replace H : (if t219 = 45 then (numeralref10_Prefix.j0 k a0 0 true (t219 == 45) 0 (⟨#[]⟩ : ByteArray) 0 false 0 0 false) else ((numeralref10_at.f a0 0).bind fun t221 => (numeralref10_Prefix.j0 k a0 0 (t221 == 43) (t219 == 45) 0 (⟨#[]⟩ : ByteArray) 0 false 0 0 false))) = some (r1, r2, r3, r4, r5, r6, r7, r8, r9, r10) := H
  have A2 := Aside0.mk A20
  clear A20
  have HC3 := Aside0.mk H
  clear H
  go_enter Tryd.func26, Tryd.ntmps26
  go_upto_region 3 with (first | ((with_reducible refine gate_dst (N := 2) rfl ?_); refine box_event ?hg (N := 2) ?hd (cs := #[.bool false, .int .i64 0, .string (⟨#[]⟩ : ByteArray), .int .i64 0, .bool false, .int .u64 0, .int .i64 0, .bool false]) (t := 43) ?hr ?_; (case hd => rfl); (case hg => rfl); (case hr => first | (go_simp; done) | (go_simp; rfl)); intro gb218 hg w4 hbox hb; have n0_ := Aside0.mk (below_step (by repeat (first | (with_reducible first | exact HB.out | apply below_alloc | apply pw_below_drewN | apply below_drew1) | exact HB.out)) hb); have n1_ := Aside0.mk (hbox); have n2_ := Aside0.mk ((by rw [hg]; exact (below_size (by repeat (first | (with_reducible first | exact HB.out | apply below_alloc | apply pw_below_drewN | apply below_drew1) | exact HB.out))) : w.heap.size ≤ gb218)); have n3_ := Aside0.mk ((by rw [hg]; exact (below_size (by repeat (first | (with_reducible first | exact HB.out | apply below_alloc | apply pw_below_drewN | apply below_drew1) | exact HB.out))) : w.heap.size ≤ gb218)); clear HB; have HB := n0_; have BK218 := n1_; have GW218 := n2_; have GE218 := n3_; clear n0_ n1_ n2_ n3_; clear hb hbox hg) | ((with_reducible refine gate_callee (f := 34) rfl ?_); refine goesL_ (some 24) rfl rfl Tryd.func34 (by kernel_rfl) rfl #[.string a0, .int .i64 0] rfl (by (try simp only [List.map_toArray, List.map_cons, List.map_nil]); first | done | rfl | (simp only [List.length_drop, List.length_take]; rfl)) ?_; (with_reducible refine (numeralref10_at.calls a0 0 t219 _ A2.out).mono ?_); rintro e w' ⟨rfl, ⟨nd, rfl⟩⟩; refine ⟨_, rfl, ?_⟩; (try (rw [drewN_self w4]; generalize hq_ : World.drewN w4 _ = w4; have n0_ : Aside0 (w4.heap[gb218]? = some (.cells #[.bool false, .int .i64 0, .string (⟨#[]⟩ : ByteArray), .int .i64 0, .bool false, .int .u64 0, .int .i64 0, .bool false] 43 (0, 0))) := ⟨by rw [← hq_]; exact (by (with_reducible repeat (first | refine blk_drewN ?_ _ | refine blk_drew ?_ | refine blk_alloc ?_ _)); exact BK218.out)⟩; have n1_ : Aside0 (Below w.heap.size w w4) := ⟨by rw [← hq_]; exact (by repeat (first | (with_reducible first | exact HB.out | apply below_alloc | apply pw_below_drewN | apply below_drew1 | refine below_set ?_ GE218.out) | exact HB.out))⟩; clear BK218 HB hq_; have BK218 := n0_; have HB := n1_; clear n0_ n1_))) | ((with_reducible refine gate_dst (N := 5) rfl ?_); refine box_event ?hg (N := 5) ?hd (cs := #[.bool false, .int .i64 0, .string (⟨#[]⟩ : ByteArray), .int .i64 0, .bool false, .int .u64 0, .int .i64 0, .bool false]) (t := 43) ?hr ?_; (case hd => rfl); (case hg => rfl); (case hr => first | (go_simp; done) | (go_simp; rfl)); intro gb220 hg w5 hbox hb; have n0_ := Aside0.mk (blk_below (g := gb218) (o := .cells #[.bool false, .int .i64 0, .string (⟨#[]⟩ : ByteArray), .int .i64 0, .bool false, .int .u64 0, .int .i64 0, .bool false] 43 (0, 0)) (by (with_reducible repeat (first | refine blk_drewN ?_ _ | refine blk_drew ?_ | refine blk_alloc ?_ _)); exact BK218.out) hb); have n1_ := Aside0.mk (below_step (by repeat (first | (with_reducible first | exact HB.out | apply below_alloc | apply pw_below_drewN | apply below_drew1 | refine below_set ?_ GE218.out) | exact HB.out)) hb); have n2_ := Aside0.mk (hbox); have n3_ := Aside0.mk ((by rw [hg]; exact (below_size (by repeat (first | (with_reducible first | exact HB.out | apply below_alloc | apply pw_below_drewN | apply below_drew1 | refine below_set ?_ GE218.out) | exact HB.out))) : w.heap.size ≤ gb220)); have n4_ := Aside0.mk ((by rw [hg]; exact (below_size (by repeat (first | (with_reducible first | exact HB.out | apply below_alloc | apply pw_below_drewN | apply below_drew1 | refine below_set ?_ GE218.out) | exact HB.out))) : w.heap.size ≤ gb220)); have n5_ := Aside0.mk ((by rw [hg]; exact Nat.ne_of_lt (blk_lt (g := gb218) (o := .cells #[.bool false, .int .i64 0, .string (⟨#[]⟩ : ByteArray), .int .i64 0, .bool false, .int .u64 0, .int .i64 0, .bool false] 43 (0, 0)) (by (with_reducible repeat (first | refine blk_drewN ?_ _ | refine blk_drew ?_ | refine blk_alloc ?_ _)); exact BK218.out)) : gb218 ≠ gb220)); have n6_ := Aside0.mk ((by rw [hg]; exact Nat.ne_of_gt (blk_lt (g := gb218) (o := .cells #[.bool false, .int .i64 0, .string (⟨#[]⟩ : ByteArray), .int .i64 0, .bool false, .int .u64 0, .int .i64 0, .bool false] 43 (0, 0)) (by (with_reducible repeat (first | refine blk_drewN ?_ _ | refine blk_drew ?_ | refine blk_alloc ?_ _)); exact BK218.out)) : gb220 ≠ gb218)); clear BK218; clear HB; have BK218 := n0_; have HB := n1_; have BK220 := n2_; have GW220 := n3_; have GE220 := n4_; have NB218_220 := n5_; have NB220_218 := n6_; clear n0_ n1_ n2_ n3_ n4_ n5_ n6_; clear hb hbox hg; have hnb6 := NB220_218.out; have hnc6 := NB218_220.out; have hcz7_0 : w5.cell? ⟨gb220, 0, none⟩ = some (.bool false) := (blk_cell BK220.out 0).trans rfl; have hcz7_1 : w5.cell? ⟨gb220, 1, none⟩ = some (.int .i64 0) := (blk_cell BK220.out 1).trans rfl; have hcz7_2 : w5.cell? ⟨gb220, 2, none⟩ = some (.string (⟨#[]⟩ : ByteArray)) := (blk_cell BK220.out 2).trans rfl; have hcz7_3 : w5.cell? ⟨gb220, 3, none⟩ = some (.int .i64 0) := (blk_cell BK220.out 3).trans rfl; have hcz7_4 : w5.cell? ⟨gb220, 4, none⟩ = some (.bool false) := (blk_cell BK220.out 4).trans rfl; have hcz7_5 : w5.cell? ⟨gb220, 5, none⟩ = some (.int .u64 0) := (blk_cell BK220.out 5).trans rfl; have hcz7_6 : w5.cell? ⟨gb220, 6, none⟩ = some (.int .i64 0) := (blk_cell BK220.out 6).trans rfl; have hcz7_7 : w5.cell? ⟨gb220, 7, none⟩ = some (.bool false) := (blk_cell BK220.out 7).trans rfl; have hfz7_0 := blk_frozen BK220.out 0; have hfz7_1 := blk_frozen BK220.out 1; have hfz7_2 := blk_frozen BK220.out 2; have hfz7_3 := blk_frozen BK220.out 3; have hfz7_4 := blk_frozen BK220.out 4; have hfz7_5 := blk_frozen BK220.out 5; have hfz7_6 := blk_frozen BK220.out 6; have hfz7_7 := blk_frozen BK220.out 7))
  (try simp only [Act.put, List.setIfInBounds_toArray, List.set_cons_zero, List.set_cons_succ])
  generalize hz_ : (t219 == 45) = z_ at HC3 ⊢
  go_cut [33] (fun v33 wc => ∃ (kq : Nat) (x33_2 : Bool), v33 = .bool x33_2 ∧ Aside0 (numeralref10_Prefix.j0 kq a0 0 x33_2 z_ 0 (⟨#[]⟩ : ByteArray) 0 false 0 0 false = some (r1, r2, r3, r4, r5, r6, r7, r8, r9, r10)) ∧ Aside0 (kq ≤ k) ∧ Aside0 (wc.heap[gb218]? = some (.cells #[.bool false, .int .i64 0, .string (⟨#[]⟩ : ByteArray), .int .i64 0, .bool false, .int .u64 0, .int .i64 0, .bool false] 43 (0, 0))) ∧ Aside0 (wc.heap[gb220]? = some (.cells #[.bool z_, .int .i64 0, .string (⟨#[]⟩ : ByteArray), .int .i64 0, .bool false, .int .u64 0, .int .i64 0, .bool false] 43 (0, 0))) ∧ Aside0 (Below w.heap.size w wc))
  case first =>
    have H := HC3.out
    clear HC3
    by_cases c8 : t219 = 45
    · rw [if_pos c8] at H
      have c8b0 : (t219 == 45) = true := beq_iff_eq.mpr c8
      obtain rfl : z_ = true := hz_.symm.trans c8b0
      have c8b1 : (t219 != 45) = false := bne_eq_false_iff_eq.mpr c8
      clear c8
      (first | rw [c8b0] | (simp only [i64_w, i32_w]; rw [c8b0]) | skip)
      have H' := Aside0.mk H
      clear H
      have hnb9 := NB220_218.out
      have hnc9 := NB218_220.out
      have hcz10_0 : w5.cell? ⟨gb220, 0, none⟩ = some (.bool false) := (blk_cell BK220.out 0).trans rfl
      have hcz10_1 : w5.cell? ⟨gb220, 1, none⟩ = some (.int .i64 0) := (blk_cell BK220.out 1).trans rfl
      have hcz10_2 : w5.cell? ⟨gb220, 2, none⟩ = some (.string (⟨#[]⟩ : ByteArray)) := (blk_cell BK220.out 2).trans rfl
      have hcz10_3 : w5.cell? ⟨gb220, 3, none⟩ = some (.int .i64 0) := (blk_cell BK220.out 3).trans rfl
      have hcz10_4 : w5.cell? ⟨gb220, 4, none⟩ = some (.bool false) := (blk_cell BK220.out 4).trans rfl
      have hcz10_5 : w5.cell? ⟨gb220, 5, none⟩ = some (.int .u64 0) := (blk_cell BK220.out 5).trans rfl
      have hcz10_6 : w5.cell? ⟨gb220, 6, none⟩ = some (.int .i64 0) := (blk_cell BK220.out 6).trans rfl
      have hcz10_7 : w5.cell? ⟨gb220, 7, none⟩ = some (.bool false) := (blk_cell BK220.out 7).trans rfl
      have hfz10_0 := blk_frozen BK220.out 0
      have hfz10_1 := blk_frozen BK220.out 1
      have hfz10_2 := blk_frozen BK220.out 2
      have hfz10_3 := blk_frozen BK220.out 3
      have hfz10_4 := blk_frozen BK220.out 4
      have hfz10_5 := blk_frozen BK220.out 5
      have hfz10_6 := blk_frozen BK220.out 6
      have hfz10_7 := blk_frozen BK220.out 7
      go_wp2
      go_meet
      case rel => exact ⟨_, (true), (by first | rfl | (simp; done) | (simp [*]; done)), H', ⟨by first | omega | exact Nat.le_refl _⟩, ⟨by (with_reducible repeat (first | refine blk_drewN ?_ _ | refine blk_drew ?_ | refine blk_alloc ?_ _)); refine blk_far ?_ NB218_220.out _; (with_reducible repeat (first | refine blk_drewN ?_ _ | refine blk_drew ?_ | refine blk_alloc ?_ _)); refine blk_far ?_ NB218_220.out _; (with_reducible repeat (first | refine blk_drewN ?_ _ | refine blk_drew ?_ | refine blk_alloc ?_ _)); refine blk_far ?_ NB218_220.out _; (with_reducible repeat (first | refine blk_drewN ?_ _ | refine blk_drew ?_ | refine blk_alloc ?_ _)); refine blk_far ?_ NB218_220.out _; (with_reducible repeat (first | refine blk_drewN ?_ _ | refine blk_drew ?_ | refine blk_alloc ?_ _)); refine blk_far ?_ NB218_220.out _; (with_reducible repeat (first | refine blk_drewN ?_ _ | refine blk_drew ?_ | refine blk_alloc ?_ _)); refine blk_far ?_ NB218_220.out _; (with_reducible repeat (first | refine blk_drewN ?_ _ | refine blk_drew ?_ | refine blk_alloc ?_ _)); refine blk_far ?_ NB218_220.out _; (with_reducible repeat (first | refine blk_drewN ?_ _ | refine blk_drew ?_ | refine blk_alloc ?_ _)); refine blk_far ?_ NB218_220.out _; (with_reducible repeat (first | refine blk_drewN ?_ _ | refine blk_drew ?_ | refine blk_alloc ?_ _)); exact BK218.out⟩, ⟨by (with_reducible repeat (first | refine blk_drewN ?_ _ | refine blk_drew ?_ | refine blk_alloc ?_ _)); refine blk_put (cs := #[.bool (true), .int .i64 0, .string (⟨#[]⟩ : ByteArray), .int .i64 0, .bool false, .int .u64 0, .int .i64 0, .bool false]) ?_ 7 _ rfl; (with_reducible repeat (first | refine blk_drewN ?_ _ | refine blk_drew ?_ | refine blk_alloc ?_ _)); refine blk_put (cs := #[.bool (true), .int .i64 0, .string (⟨#[]⟩ : ByteArray), .int .i64 0, .bool false, .int .u64 0, .int .i64 0, .bool false]) ?_ 6 _ rfl; (with_reducible repeat (first | refine blk_drewN ?_ _ | refine blk_drew ?_ | refine blk_alloc ?_ _)); refine blk_put (cs := #[.bool (true), .int .i64 0, .string (⟨#[]⟩ : ByteArray), .int .i64 0, .bool false, .int .u64 0, .int .i64 0, .bool false]) ?_ 5 _ rfl; (with_reducible repeat (first | refine blk_drewN ?_ _ | refine blk_drew ?_ | refine blk_alloc ?_ _)); refine blk_put (cs := #[.bool (true), .int .i64 0, .string (⟨#[]⟩ : ByteArray), .int .i64 0, .bool false, .int .u64 0, .int .i64 0, .bool false]) ?_ 4 _ rfl; (with_reducible repeat (first | refine blk_drewN ?_ _ | refine blk_drew ?_ | refine blk_alloc ?_ _)); refine blk_put (cs := #[.bool (true), .int .i64 0, .string (⟨#[]⟩ : ByteArray), .int .i64 0, .bool false, .int .u64 0, .int .i64 0, .bool false]) ?_ 3 _ rfl; (with_reducible repeat (first | refine blk_drewN ?_ _ | refine blk_drew ?_ | refine blk_alloc ?_ _)); refine blk_put (cs := #[.bool (true), .int .i64 0, .string (⟨#[]⟩ : ByteArray), .int .i64 0, .bool false, .int .u64 0, .int .i64 0, .bool false]) ?_ 2 _ rfl; (with_reducible repeat (first | refine blk_drewN ?_ _ | refine blk_drew ?_ | refine blk_alloc ?_ _)); refine blk_put (cs := #[.bool (true), .int .i64 0, .string (⟨#[]⟩ : ByteArray), .int .i64 0, .bool false, .int .u64 0, .int .i64 0, .bool false]) ?_ 1 _ rfl; (with_reducible repeat (first | refine blk_drewN ?_ _ | refine blk_drew ?_ | refine blk_alloc ?_ _)); refine blk_put (cs := #[.bool false, .int .i64 0, .string (⟨#[]⟩ : ByteArray), .int .i64 0, .bool false, .int .u64 0, .int .i64 0, .bool false]) ?_ 0 _ rfl; (with_reducible repeat (first | refine blk_drewN ?_ _ | refine blk_drew ?_ | refine blk_alloc ?_ _)); exact BK220.out⟩, ⟨by repeat (first | (with_reducible first | exact HB.out | apply below_alloc | apply pw_below_drewN | apply below_drew1 | refine below_set ?_ GE218.out | refine below_set ?_ GE220.out) | exact HB.out)⟩⟩
    · rw [if_neg c8] at H
      have c8b0 : (t219 == 45) = false := beq_eq_false_iff_ne.mpr c8
      obtain rfl : z_ = false := hz_.symm.trans c8b0
      have c8b1 : (t219 != 45) = true := bne_iff_ne.mpr c8
      (first | rw [c8b0] | (simp only [i64_w, i32_w]; rw [c8b0]) | skip)
      replace H := Option.bind_eq_some_iff.mp H
      obtain ⟨t221, A110, H⟩ := H
      replace H : (numeralref10_Prefix.j0 k a0 0 (t221 == 43) (false) 0 (⟨#[]⟩ : ByteArray) 0 false 0 0 false) = some (r1, r2, r3, r4, r5, r6, r7, r8, r9, r10) := H
      have A11 := Aside0.mk A110
      clear A110
      have H' := Aside0.mk H
      clear H
      have hnb12 := NB220_218.out
      have hnc12 := NB218_220.out
      have hcz13_0 : w5.cell? ⟨gb220, 0, none⟩ = some (.bool false) := (blk_cell BK220.out 0).trans rfl
      have hcz13_1 : w5.cell? ⟨gb220, 1, none⟩ = some (.int .i64 0) := (blk_cell BK220.out 1).trans rfl
      have hcz13_2 : w5.cell? ⟨gb220, 2, none⟩ = some (.string (⟨#[]⟩ : ByteArray)) := (blk_cell BK220.out 2).trans rfl
      have hcz13_3 : w5.cell? ⟨gb220, 3, none⟩ = some (.int .i64 0) := (blk_cell BK220.out 3).trans rfl
      have hcz13_4 : w5.cell? ⟨gb220, 4, none⟩ = some (.bool false) := (blk_cell BK220.out 4).trans rfl
      have hcz13_5 : w5.cell? ⟨gb220, 5, none⟩ = some (.int .u64 0) := (blk_cell BK220.out 5).trans rfl
      have hcz13_6 : w5.cell? ⟨gb220, 6, none⟩ = some (.int .i64 0) := (blk_cell BK220.out 6).trans rfl
      have hcz13_7 : w5.cell? ⟨gb220, 7, none⟩ = some (.bool false) := (blk_cell BK220.out 7).trans rfl
      have hfz13_0 := blk_frozen BK220.out 0
      have hfz13_1 := blk_frozen BK220.out 1
      have hfz13_2 := blk_frozen BK220.out 2
      have hfz13_3 := blk_frozen BK220.out 3
      have hfz13_4 := blk_frozen BK220.out 4
      have hfz13_5 := blk_frozen BK220.out 5
      have hfz13_6 := blk_frozen BK220.out 6
      have hfz13_7 := blk_frozen BK220.out 7
      go_wp2_with (first | (go_at_call 34; (with_reducible refine (numeralref10_at.calls a0 0 t221 _ A11.out).mono ?_); rintro e w' ⟨rfl, ⟨nd, rfl⟩⟩))
      go_meet
      case rel => exact ⟨_, ((t221 == 43)), (by first | rfl | (simp; done) | (simp [*]; done)), H', ⟨by first | omega | exact Nat.le_refl _⟩, ⟨by (with_reducible repeat (first | refine blk_drewN ?_ _ | refine blk_drew ?_ | refine blk_alloc ?_ _)); refine blk_far ?_ NB218_220.out _; (with_reducible repeat (first | refine blk_drewN ?_ _ | refine blk_drew ?_ | refine blk_alloc ?_ _)); refine blk_far ?_ NB218_220.out _; (with_reducible repeat (first | refine blk_drewN ?_ _ | refine blk_drew ?_ | refine blk_alloc ?_ _)); refine blk_far ?_ NB218_220.out _; (with_reducible repeat (first | refine blk_drewN ?_ _ | refine blk_drew ?_ | refine blk_alloc ?_ _)); refine blk_far ?_ NB218_220.out _; (with_reducible repeat (first | refine blk_drewN ?_ _ | refine blk_drew ?_ | refine blk_alloc ?_ _)); refine blk_far ?_ NB218_220.out _; (with_reducible repeat (first | refine blk_drewN ?_ _ | refine blk_drew ?_ | refine blk_alloc ?_ _)); refine blk_far ?_ NB218_220.out _; (with_reducible repeat (first | refine blk_drewN ?_ _ | refine blk_drew ?_ | refine blk_alloc ?_ _)); refine blk_far ?_ NB218_220.out _; (with_reducible repeat (first | refine blk_drewN ?_ _ | refine blk_drew ?_ | refine blk_alloc ?_ _)); refine blk_far ?_ NB218_220.out _; (with_reducible repeat (first | refine blk_drewN ?_ _ | refine blk_drew ?_ | refine blk_alloc ?_ _)); exact BK218.out⟩, ⟨by (with_reducible repeat (first | refine blk_drewN ?_ _ | refine blk_drew ?_ | refine blk_alloc ?_ _)); refine blk_put (cs := #[.bool (false), .int .i64 0, .string (⟨#[]⟩ : ByteArray), .int .i64 0, .bool false, .int .u64 0, .int .i64 0, .bool false]) ?_ 7 _ rfl; (with_reducible repeat (first | refine blk_drewN ?_ _ | refine blk_drew ?_ | refine blk_alloc ?_ _)); refine blk_put (cs := #[.bool (false), .int .i64 0, .string (⟨#[]⟩ : ByteArray), .int .i64 0, .bool false, .int .u64 0, .int .i64 0, .bool false]) ?_ 6 _ rfl; (with_reducible repeat (first | refine blk_drewN ?_ _ | refine blk_drew ?_ | refine blk_alloc ?_ _)); refine blk_put (cs := #[.bool (false), .int .i64 0, .string (⟨#[]⟩ : ByteArray), .int .i64 0, .bool false, .int .u64 0, .int .i64 0, .bool false]) ?_ 5 _ rfl; (with_reducible repeat (first | refine blk_drewN ?_ _ | refine blk_drew ?_ | refine blk_alloc ?_ _)); refine blk_put (cs := #[.bool (false), .int .i64 0, .string (⟨#[]⟩ : ByteArray), .int .i64 0, .bool false, .int .u64 0, .int .i64 0, .bool false]) ?_ 4 _ rfl; (with_reducible repeat (first | refine blk_drewN ?_ _ | refine blk_drew ?_ | refine blk_alloc ?_ _)); refine blk_put (cs := #[.bool (false), .int .i64 0, .string (⟨#[]⟩ : ByteArray), .int .i64 0, .bool false, .int .u64 0, .int .i64 0, .bool false]) ?_ 3 _ rfl; (with_reducible repeat (first | refine blk_drewN ?_ _ | refine blk_drew ?_ | refine blk_alloc ?_ _)); refine blk_put (cs := #[.bool (false), .int .i64 0, .string (⟨#[]⟩ : ByteArray), .int .i64 0, .bool false, .int .u64 0, .int .i64 0, .bool false]) ?_ 2 _ rfl; (with_reducible repeat (first | refine blk_drewN ?_ _ | refine blk_drew ?_ | refine blk_alloc ?_ _)); refine blk_put (cs := #[.bool (false), .int .i64 0, .string (⟨#[]⟩ : ByteArray), .int .i64 0, .bool false, .int .u64 0, .int .i64 0, .bool false]) ?_ 1 _ rfl; (with_reducible repeat (first | refine blk_drewN ?_ _ | refine blk_drew ?_ | refine blk_alloc ?_ _)); refine blk_put (cs := #[.bool false, .int .i64 0, .string (⟨#[]⟩ : ByteArray), .int .i64 0, .bool false, .int .u64 0, .int .i64 0, .bool false]) ?_ 0 _ rfl; (with_reducible repeat (first | refine blk_drewN ?_ _ | refine blk_drew ?_ | refine blk_alloc ?_ _)); exact BK220.out⟩, ⟨by repeat (first | (with_reducible first | exact HB.out | apply below_alloc | apply pw_below_drewN | apply below_drew1 | refine below_set ?_ GE218.out | refine below_set ?_ GE220.out) | exact HB.out)⟩⟩
  case rest =>
    clear HC3
    try clear c1
    try clear c2
    try clear p2
    try clear c3
    try clear c6
    try clear c8
    try clear c8b0
    try clear c8b1
    try clear c9
    try clear c12
    try clear hcz10_0
    try clear hcz10_1
    try clear hcz10_2
    try clear hcz10_3
    try clear hcz10_4
    try clear hcz10_5
    try clear hcz10_6
    try clear hcz10_7
    try clear hcz13_0
    try clear hcz13_1
    try clear hcz13_2
    try clear hcz13_3
    try clear hcz13_4
    try clear hcz13_5
    try clear hcz13_6
    try clear hcz13_7
    try clear hcz7_0
    try clear hcz7_1
    try clear hcz7_2
    try clear hcz7_3
    try clear hcz7_4
    try clear hcz7_5
    try clear hcz7_6
    try clear hcz7_7
    try clear hfz10_0
    try clear hfz10_1
    try clear hfz10_2
    try clear hfz10_3
    try clear hfz10_4
    try clear hfz10_5
    try clear hfz10_6
    try clear hfz10_7
    try clear hfz13_0
    try clear hfz13_1
    try clear hfz13_2
    try clear hfz13_3
    try clear hfz13_4
    try clear hfz13_5
    try clear hfz13_6
    try clear hfz13_7
    try clear hfz7_0
    try clear hfz7_1
    try clear hfz7_2
    try clear hfz7_3
    try clear hfz7_4
    try clear hfz7_5
    try clear hfz7_6
    try clear hfz7_7
    obtain ⟨kq, x33_2, rfl, HA, HJ2, BK218, BK220, HB⟩ := hcut
    cases kq with
    | zero => exact absurd HA.out (by simp [numeralref10_Prefix.j0])
    | succ kj2 =>
      have H := HA.out
      clear HA
      simp only [numeralref10_Prefix.j0] at H
      have HC14 := Aside0.mk H
      clear H
      go_upto_if 33 with (fail)
      go_cut [6] (fun v6 wc => ∃ (kq : Nat) (x6_13 : Int), v6 = .int .i64 x6_13 ∧ Aside0 (numeralref10_Prefix.j1 kq a0 x6_13 z_ 0 (⟨#[]⟩ : ByteArray) 0 false 0 0 false = some (r1, r2, r3, r4, r5, r6, r7, r8, r9, r10)) ∧ Aside0 (kq ≤ kj2) ∧ Aside0 (wc.heap[gb218]? = some (.cells #[.bool false, .int .i64 0, .string (⟨#[]⟩ : ByteArray), .int .i64 0, .bool false, .int .u64 0, .int .i64 0, .bool false] 43 (0, 0))) ∧ Aside0 (wc.heap[gb220]? = some (.cells #[.bool z_, .int .i64 0, .string (⟨#[]⟩ : ByteArray), .int .i64 0, .bool false, .int .u64 0, .int .i64 0, .bool false] 43 (0, 0))) ∧ Aside0 (Below w.heap.size w wc))
      case first =>
        have H := HC14.out
        clear HC14
        by_cases c15 : x33_2 = true
        · subst c15
          have H1 : (numeralref10_Prefix.j1 kj2 a0 1 z_ 0 (⟨#[]⟩ : ByteArray) 0 false 0 0 false) = some (r1, r2, r3, r4, r5, r6, r7, r8, r9, r10) := by rw [if_pos rfl] at H; exact H
          clear H
          have H := H1
          clear H1
          have H' := Aside0.mk H
          clear H
          go_wp2
          go_meet
          case rel => exact ⟨_, (1), (by first | rfl | (simp; done) | (simp [*]; done)), H', ⟨by have := HJ2.out; first | omega | exact Nat.le_refl _⟩, ⟨by (with_reducible repeat (first | refine blk_drewN ?_ _ | refine blk_drew ?_ | refine blk_alloc ?_ _)); exact BK218.out⟩, ⟨by (with_reducible repeat (first | refine blk_drewN ?_ _ | refine blk_drew ?_ | refine blk_alloc ?_ _)); exact BK220.out⟩, ⟨by repeat (first | (with_reducible first | exact HB.out | apply below_alloc | apply pw_below_drewN | apply below_drew1 | refine below_set ?_ GE218.out | refine below_set ?_ GE220.out) | exact HB.out)⟩⟩
        · replace c15 := Bool.eq_false_iff.mpr c15
          subst c15
          have H1 : (numeralref10_Prefix.j1 kj2 a0 0 z_ 0 (⟨#[]⟩ : ByteArray) 0 false 0 0 false) = some (r1, r2, r3, r4, r5, r6, r7, r8, r9, r10) := by rw [if_neg (show ¬ (false = true) by decide)] at H; exact H
          clear H
          have H := H1
          clear H1
          have H' := Aside0.mk H
          clear H
          go_wp2
          go_meet
          case rel => exact ⟨_, (0), (by first | rfl | (simp; done) | (simp [*]; done)), H', ⟨by have := HJ2.out; first | omega | exact Nat.le_refl _⟩, ⟨by (with_reducible repeat (first | refine blk_drewN ?_ _ | refine blk_drew ?_ | refine blk_alloc ?_ _)); exact BK218.out⟩, ⟨by (with_reducible repeat (first | refine blk_drewN ?_ _ | refine blk_drew ?_ | refine blk_alloc ?_ _)); exact BK220.out⟩, ⟨by repeat (first | (with_reducible first | exact HB.out | apply below_alloc | apply pw_below_drewN | apply below_drew1 | refine below_set ?_ GE218.out | refine below_set ?_ GE220.out) | exact HB.out)⟩⟩
      case rest =>
        clear HC14
        try clear c1
        try clear c2
        try clear p2
        try clear c3
        try clear c6
        try clear c8
        try clear c8b0
        try clear c8b1
        try clear c9
        try clear c12
        try clear c15
        try clear hcz10_0
        try clear hcz10_1
        try clear hcz10_2
        try clear hcz10_3
        try clear hcz10_4
        try clear hcz10_5
        try clear hcz10_6
        try clear hcz10_7
        try clear hcz13_0
        try clear hcz13_1
        try clear hcz13_2
        try clear hcz13_3
        try clear hcz13_4
        try clear hcz13_5
        try clear hcz13_6
        try clear hcz13_7
        try clear hcz7_0
        try clear hcz7_1
        try clear hcz7_2
        try clear hcz7_3
        try clear hcz7_4
        try clear hcz7_5
        try clear hcz7_6
        try clear hcz7_7
        try clear hfz10_0
        try clear hfz10_1
        try clear hfz10_2
        try clear hfz10_3
        try clear hfz10_4
        try clear hfz10_5
        try clear hfz10_6
        try clear hfz10_7
        try clear hfz13_0
        try clear hfz13_1
        try clear hfz13_2
        try clear hfz13_3
        try clear hfz13_4
        try clear hfz13_5
        try clear hfz13_6
        try clear hfz13_7
        try clear hfz7_0
        try clear hfz7_1
        try clear hfz7_2
        try clear hfz7_3
        try clear hfz7_4
        try clear hfz7_5
        try clear hfz7_6
        try clear hfz7_7
        try clear p2
        obtain ⟨kq, x6_13, rfl, HA, HJ13, BK218, BK220, HB⟩ := hcut
        cases kq with
        | zero => exact absurd HA.out (by simp [numeralref10_Prefix.j1])
        | succ kj13 =>
          have H := HA.out
          clear HA
          simp only [numeralref10_Prefix.j1] at H
          have HC16 := Aside0.mk H
          clear H
          go_upto_region 5 with (fail)
          go_cut [34] (fun v34 wc => ∃ (kq : Nat) (x34_15 : Bool), v34 = .bool x34_15 ∧ Aside0 (numeralref10_Prefix.j2 kq a0 x6_13 x34_15 z_ 0 (⟨#[]⟩ : ByteArray) 0 false 0 0 false = some (r1, r2, r3, r4, r5, r6, r7, r8, r9, r10)) ∧ Aside0 (kq ≤ kj13) ∧ Aside0 (wc.heap[gb218]? = some (.cells #[.bool false, .int .i64 0, .string (⟨#[]⟩ : ByteArray), .int .i64 0, .bool false, .int .u64 0, .int .i64 0, .bool false] 43 (0, 0))) ∧ Aside0 (wc.heap[gb220]? = some (.cells #[.bool z_, .int .i64 0, .string (⟨#[]⟩ : ByteArray), .int .i64 0, .bool false, .int .u64 0, .int .i64 0, .bool false] 43 (0, 0))) ∧ Aside0 (Below w.heap.size w wc))
          case first =>
            have H := HC16.out
            clear HC16
            by_cases c17 : x6_13 = 0
            · rw [if_pos c17] at H
              have c17b0 : (x6_13 == 0) = true := beq_iff_eq.mpr c17
              have c17b1 : (x6_13 != 0) = false := bne_eq_false_iff_eq.mpr c17
              clear c17
              (first | rw [c17b0] | (simp only [i64_w, i32_w]; rw [c17b0]) | skip)
              replace H := Option.bind_eq_some_iff.mp H
              obtain ⟨t222, A180, H⟩ := H
              replace H : (numeralref10_Prefix.j2 kj13 a0 x6_13 t222 z_ 0 (⟨#[]⟩ : ByteArray) 0 false 0 0 false) = some (r1, r2, r3, r4, r5, r6, r7, r8, r9, r10) := H
              have A18 := Aside0.mk A180
              clear A180
              have H' := Aside0.mk H
              clear H
              go_wp2_with (first | (go_at_call 35; (with_reducible refine (numeralref10_word.calls kj13 a0 0 (⟨#[110, 97, 110]⟩ : ByteArray) t222 _ A18.out).mono ?_); rintro e w' ⟨rfl, ⟨nd, rfl⟩⟩))
              go_meet
              case rel => exact ⟨_, (t222), (by first | rfl | (simp; done) | (simp [*]; done)), H', ⟨by have := HJ2.out; have := HJ13.out; first | omega | exact Nat.le_refl _⟩, ⟨by (with_reducible repeat (first | refine blk_drewN ?_ _ | refine blk_drew ?_ | refine blk_alloc ?_ _)); exact BK218.out⟩, ⟨by (with_reducible repeat (first | refine blk_drewN ?_ _ | refine blk_drew ?_ | refine blk_alloc ?_ _)); exact BK220.out⟩, ⟨by repeat (first | (with_reducible first | exact HB.out | apply below_alloc | apply pw_below_drewN | apply below_drew1 | refine below_set ?_ GE218.out | refine below_set ?_ GE220.out) | exact HB.out)⟩⟩
            · rw [if_neg c17] at H
              have c17b0 : (x6_13 == 0) = false := beq_eq_false_iff_ne.mpr c17
              have c17b1 : (x6_13 != 0) = true := bne_iff_ne.mpr c17
              (first | rw [c17b0] | (simp only [i64_w, i32_w]; rw [c17b0]) | skip)
              have H' := Aside0.mk H
              clear H
              go_wp2
              go_meet
              case rel => exact ⟨_, (false), (by first | rfl | (simp; done) | (simp [*]; done)), H', ⟨by have := HJ2.out; have := HJ13.out; first | omega | exact Nat.le_refl _⟩, ⟨by (with_reducible repeat (first | refine blk_drewN ?_ _ | refine blk_drew ?_ | refine blk_alloc ?_ _)); exact BK218.out⟩, ⟨by (with_reducible repeat (first | refine blk_drewN ?_ _ | refine blk_drew ?_ | refine blk_alloc ?_ _)); exact BK220.out⟩, ⟨by repeat (first | (with_reducible first | exact HB.out | apply below_alloc | apply pw_below_drewN | apply below_drew1 | refine below_set ?_ GE218.out | refine below_set ?_ GE220.out) | exact HB.out)⟩⟩
          case rest =>
            clear HC16
            try clear c1
            try clear c2
            try clear p2
            try clear c3
            try clear c6
            try clear c8
            try clear c8b0
            try clear c8b1
            try clear c9
            try clear c12
            try clear c15
            try clear c17
            try clear c17b0
            try clear c17b1
            try clear hcz10_0
            try clear hcz10_1
            try clear hcz10_2
            try clear hcz10_3
            try clear hcz10_4
            try clear hcz10_5
            try clear hcz10_6
            try clear hcz10_7
            try clear hcz13_0
            try clear hcz13_1
            try clear hcz13_2
            try clear hcz13_3
            try clear hcz13_4
            try clear hcz13_5
            try clear hcz13_6
            try clear hcz13_7
            try clear hcz7_0
            try clear hcz7_1
            try clear hcz7_2
            try clear hcz7_3
            try clear hcz7_4
            try clear hcz7_5
            try clear hcz7_6
            try clear hcz7_7
            try clear hfz10_0
            try clear hfz10_1
            try clear hfz10_2
            try clear hfz10_3
            try clear hfz10_4
            try clear hfz10_5
            try clear hfz10_6
            try clear hfz10_7
            try clear hfz13_0
            try clear hfz13_1
            try clear hfz13_2
            try clear hfz13_3
            try clear hfz13_4
            try clear hfz13_5
            try clear hfz13_6
            try clear hfz13_7
            try clear hfz7_0
            try clear hfz7_1
            try clear hfz7_2
            try clear hfz7_3
            try clear hfz7_4
            try clear hfz7_5
            try clear hfz7_6
            try clear hfz7_7
            try clear p2
            obtain ⟨kq, x34_15, rfl, HA, HJ15, BK218, BK220, HB⟩ := hcut
            cases kq with
            | zero => exact absurd HA.out (by simp [numeralref10_Prefix.j2])
            | succ kj15 =>
              have H := HA.out
              clear HA
              simp only [numeralref10_Prefix.j2] at H
              by_cases c19 : x34_15 = true
              · subst c19
                have H1 : (some (false, 4, (⟨#[]⟩ : ByteArray), 0, false, 0, 0, false, 3, 0)) = some (r1, r2, r3, r4, r5, r6, r7, r8, r9, r10) := by rw [if_pos rfl] at H; exact H
                clear H
                have H := H1
                clear H1
                simp only [Option.some.injEq, Prod.mk.injEq] at H
                obtain ⟨rfl, rfl, rfl, rfl, rfl, rfl, rfl, rfl, rfl, rfl⟩ := H
                have hnb20 := NB218_220.out
                have hnc20 := NB220_218.out
                have hcz21_0 : wc.cell? ⟨gb218, 0, none⟩ = some (.bool false) := (blk_cell BK218.out 0).trans rfl
                have hcz21_1 : wc.cell? ⟨gb218, 1, none⟩ = some (.int .i64 0) := (blk_cell BK218.out 1).trans rfl
                have hcz21_2 : wc.cell? ⟨gb218, 2, none⟩ = some (.string (⟨#[]⟩ : ByteArray)) := (blk_cell BK218.out 2).trans rfl
                have hcz21_3 : wc.cell? ⟨gb218, 3, none⟩ = some (.int .i64 0) := (blk_cell BK218.out 3).trans rfl
                have hcz21_4 : wc.cell? ⟨gb218, 4, none⟩ = some (.bool false) := (blk_cell BK218.out 4).trans rfl
                have hcz21_5 : wc.cell? ⟨gb218, 5, none⟩ = some (.int .u64 0) := (blk_cell BK218.out 5).trans rfl
                have hcz21_6 : wc.cell? ⟨gb218, 6, none⟩ = some (.int .i64 0) := (blk_cell BK218.out 6).trans rfl
                have hcz21_7 : wc.cell? ⟨gb218, 7, none⟩ = some (.bool false) := (blk_cell BK218.out 7).trans rfl
                have hfz21_0 := blk_frozen BK218.out 0
                have hfz21_1 := blk_frozen BK218.out 1
                have hfz21_2 := blk_frozen BK218.out 2
                have hfz21_3 := blk_frozen BK218.out 3
                have hfz21_4 := blk_frozen BK218.out 4
                have hfz21_5 := blk_frozen BK218.out 5
                have hfz21_6 := blk_frozen BK218.out 6
                have hfz21_7 := blk_frozen BK218.out 7
                go_wp2
                refine bodyPost_ret (results_ctt rfl _ _ gb218 43 #[.bool false, .int .i64 4, .string (⟨#[]⟩ : ByteArray), .int .i64 0, .bool false, .int .u64 0, .int .i64 0, .bool false] (0, 0) _ rfl (by (with_reducible repeat (first | refine blk_drewN ?_ _ | refine blk_drew ?_ | refine blk_alloc ?_ _)); refine blk_put (cs := #[.bool false, .int .i64 4, .string (⟨#[]⟩ : ByteArray), .int .i64 0, .bool false, .int .u64 0, .int .i64 0, .bool false]) ?_ 7 _ rfl; (with_reducible repeat (first | refine blk_drewN ?_ _ | refine blk_drew ?_ | refine blk_alloc ?_ _)); refine blk_put (cs := #[.bool false, .int .i64 4, .string (⟨#[]⟩ : ByteArray), .int .i64 0, .bool false, .int .u64 0, .int .i64 0, .bool false]) ?_ 6 _ rfl; (with_reducible repeat (first | refine blk_drewN ?_ _ | refine blk_drew ?_ | refine blk_alloc ?_ _)); refine blk_put (cs := #[.bool false, .int .i64 4, .string (⟨#[]⟩ : ByteArray), .int .i64 0, .bool false, .int .u64 0, .int .i64 0, .bool false]) ?_ 5 _ rfl; (with_reducible repeat (first | refine blk_drewN ?_ _ | refine blk_drew ?_ | refine blk_alloc ?_ _)); refine blk_put (cs := #[.bool false, .int .i64 4, .string (⟨#[]⟩ : ByteArray), .int .i64 0, .bool false, .int .u64 0, .int .i64 0, .bool false]) ?_ 4 _ rfl; (with_reducible repeat (first | refine blk_drewN ?_ _ | refine blk_drew ?_ | refine blk_alloc ?_ _)); refine blk_put (cs := #[.bool false, .int .i64 4, .string (⟨#[]⟩ : ByteArray), .int .i64 0, .bool false, .int .u64 0, .int .i64 0, .bool false]) ?_ 3 _ rfl; (with_reducible repeat (first | refine blk_drewN ?_ _ | refine blk_drew ?_ | refine blk_alloc ?_ _)); refine blk_put (cs := #[.bool false, .int .i64 4, .string (⟨#[]⟩ : ByteArray), .int .i64 0, .bool false, .int .u64 0, .int .i64 0, .bool false]) ?_ 2 _ rfl; (with_reducible repeat (first | refine blk_drewN ?_ _ | refine blk_drew ?_ | refine blk_alloc ?_ _)); refine blk_put (cs := #[.bool false, .int .i64 0, .string (⟨#[]⟩ : ByteArray), .int .i64 0, .bool false, .int .u64 0, .int .i64 0, .bool false]) ?_ 1 _ rfl; (with_reducible repeat (first | refine blk_drewN ?_ _ | refine blk_drew ?_ | refine blk_alloc ?_ _)); refine blk_put (cs := #[.bool false, .int .i64 0, .string (⟨#[]⟩ : ByteArray), .int .i64 0, .bool false, .int .u64 0, .int .i64 0, .bool false]) ?_ 0 _ rfl; (with_reducible repeat (first | refine blk_drewN ?_ _ | refine blk_drew ?_ | refine blk_alloc ?_ _)); exact BK218.out) Tryd.underlying43 rfl (by kernel_rfl)) rfl ?_
                exact ⟨by first | rfl | (simp [errW_none, errW_some] <;> rfl) | (simp [*, errW_none, errW_some] <;> rfl), by repeat (first | (with_reducible first | exact HB.out | apply below_alloc | apply pw_below_drewN | apply below_drew1 | refine below_set ?_ GE218.out | refine below_set ?_ GE220.out) | exact HB.out)⟩
              · replace c19 := Bool.eq_false_iff.mpr c19
                subst c19
                have H1 : ((numeralref10_word.f kj15 a0 x6_13 (⟨#[105, 110, 102, 105, 110, 105, 116, 121]⟩ : ByteArray)).bind fun t223 => (if t223 = true then (some (z_, 3, (⟨#[]⟩ : ByteArray), 0, false, 0, 0, false, wrap64 (x6_13 + 8), 0)) else ((numeralref10_word.f kj15 a0 x6_13 (⟨#[105, 110, 102]⟩ : ByteArray)).bind fun t224 => (if t224 = true then (some (z_, 3, (⟨#[]⟩ : ByteArray), 0, false, 0, 0, false, wrap64 (x6_13 + 3), 0)) else ((numeralref10_at.f a0 x6_13).bind fun t225 => (if t225 = 48 then ((numeralref10_at.f a0 (wrap64 (x6_13 + 1))).bind fun t226 => ((numeralref10_small.f t226).bind fun t227 => (numeralref10_Prefix.j3 kj15 a0 x6_13 (t227 == 120) z_ 0 (⟨#[]⟩ : ByteArray) 0 false 0 0 false))) else (numeralref10_Prefix.j3 kj15 a0 x6_13 false z_ 0 (⟨#[]⟩ : ByteArray) 0 false 0 0 false))))))) = some (r1, r2, r3, r4, r5, r6, r7, r8, r9, r10) := by rw [if_neg (show ¬ (false = true) by decide)] at H; exact H
                clear H
                have H := H1
                clear H1
                replace H := Option.bind_eq_some_iff.mp H
                obtain ⟨t223, A220, H⟩ := H
                replace H : (if t223 = true then (some (z_, 3, (⟨#[]⟩ : ByteArray), 0, false, 0, 0, false, wrap64 (x6_13 + 8), 0)) else ((numeralref10_word.f kj15 a0 x6_13 (⟨#[105, 110, 102]⟩ : ByteArray)).bind fun t224 => (if t224 = true then (some (z_, 3, (⟨#[]⟩ : ByteArray), 0, false, 0, 0, false, wrap64 (x6_13 + 3), 0)) else ((numeralref10_at.f a0 x6_13).bind fun t225 => (if t225 = 48 then ((numeralref10_at.f a0 (wrap64 (x6_13 + 1))).bind fun t226 => ((numeralref10_small.f t226).bind fun t227 => (numeralref10_Prefix.j3 kj15 a0 x6_13 (t227 == 120) z_ 0 (⟨#[]⟩ : ByteArray) 0 false 0 0 false))) else (numeralref10_Prefix.j3 kj15 a0 x6_13 false z_ 0 (⟨#[]⟩ : ByteArray) 0 false 0 0 false)))))) = some (r1, r2, r3, r4, r5, r6, r7, r8, r9, r10) := H
                have A22 := Aside0.mk A220
                clear A220
                by_cases c23 : t223 = true
                · subst c23
                  have H1 : (some (z_, 3, (⟨#[]⟩ : ByteArray), 0, false, 0, 0, false, wrap64 (x6_13 + 8), 0)) = some (r1, r2, r3, r4, r5, r6, r7, r8, r9, r10) := by rw [if_pos rfl] at H; exact H
                  clear H
                  have H := H1
                  clear H1
                  simp only [Option.some.injEq, Prod.mk.injEq] at H
                  obtain ⟨rfl, rfl, rfl, rfl, rfl, rfl, rfl, rfl, rfl, rfl⟩ := H
                  go_wp2_with (first | ((with_reducible refine gate_callee (f := 35) rfl ?_); refine goesL_ (some 45) rfl rfl Tryd.func35 (by kernel_rfl) rfl #[.string a0, .int .i64 x6_13, .string (⟨#[105, 110, 102, 105, 110, 105, 116, 121]⟩ : ByteArray)] rfl (by (try simp only [List.map_toArray, List.map_cons, List.map_nil]); first | done | rfl | (simp only [List.length_drop, List.length_take]; rfl)) ?_; (with_reducible refine (numeralref10_word.calls kj15 a0 x6_13 (⟨#[105, 110, 102, 105, 110, 105, 116, 121]⟩ : ByteArray) true _ A22.out).mono ?_); rintro e w' ⟨rfl, ⟨nd, rfl⟩⟩; refine ⟨_, rfl, ?_⟩; (try (rw [drewN_self wc]; generalize hq_ : World.drewN wc _ = wc; have n0_ : Aside0 (wc.heap[gb218]? = some (.cells #[.bool false, .int .i64 0, .string (⟨#[]⟩ : ByteArray), .int .i64 0, .bool false, .int .u64 0, .int .i64 0, .bool false] 43 (0, 0))) := ⟨by rw [← hq_]; exact (by (with_reducible repeat (first | refine blk_drewN ?_ _ | refine blk_drew ?_ | refine blk_alloc ?_ _)); exact BK218.out)⟩; have n1_ : Aside0 (wc.heap[gb220]? = some (.cells #[.bool z_, .int .i64 0, .string (⟨#[]⟩ : ByteArray), .int .i64 0, .bool false, .int .u64 0, .int .i64 0, .bool false] 43 (0, 0))) := ⟨by rw [← hq_]; exact (by (with_reducible repeat (first | refine blk_drewN ?_ _ | refine blk_drew ?_ | refine blk_alloc ?_ _)); exact BK220.out)⟩; have n2_ : Aside0 (Below w.heap.size w wc) := ⟨by rw [← hq_]; exact (by repeat (first | (with_reducible first | exact HB.out | apply below_alloc | apply pw_below_drewN | apply below_drew1 | refine below_set ?_ GE218.out | refine below_set ?_ GE220.out) | exact HB.out))⟩; clear BK218 BK220 HB hq_; have BK218 := n0_; have BK220 := n1_; have HB := n2_; clear n0_ n1_ n2_)); have hnb24 := NB220_218.out; have hnc24 := NB218_220.out; have hcz25_0 : wc.cell? ⟨gb220, 0, none⟩ = some (.bool z_) := (blk_cell BK220.out 0).trans rfl; have hcz25_1 : wc.cell? ⟨gb220, 1, none⟩ = some (.int .i64 0) := (blk_cell BK220.out 1).trans rfl; have hcz25_2 : wc.cell? ⟨gb220, 2, none⟩ = some (.string (⟨#[]⟩ : ByteArray)) := (blk_cell BK220.out 2).trans rfl; have hcz25_3 : wc.cell? ⟨gb220, 3, none⟩ = some (.int .i64 0) := (blk_cell BK220.out 3).trans rfl; have hcz25_4 : wc.cell? ⟨gb220, 4, none⟩ = some (.bool false) := (blk_cell BK220.out 4).trans rfl; have hcz25_5 : wc.cell? ⟨gb220, 5, none⟩ = some (.int .u64 0) := (blk_cell BK220.out 5).trans rfl; have hcz25_6 : wc.cell? ⟨gb220, 6, none⟩ = some (.int .i64 0) := (blk_cell BK220.out 6).trans rfl; have hcz25_7 : wc.cell? ⟨gb220, 7, none⟩ = some (.bool false) := (blk_cell BK220.out 7).trans rfl; have hfz25_0 := blk_frozen BK220.out 0; have hfz25_1 := blk_frozen BK220.out 1; have hfz25_2 := blk_frozen BK220.out 2; have hfz25_3 := blk_frozen BK220.out 3; have hfz25_4 := blk_frozen BK220.out 4; have hfz25_5 := blk_frozen BK220.out 5; have hfz25_6 := blk_frozen BK220.out 6; have hfz25_7 := blk_frozen BK220.out 7; have hcz26_0 : wc.cell? ⟨gb218, 0, none⟩ = some (.bool false) := (blk_cell BK218.out 0).trans rfl; have hcz26_1 : wc.cell? ⟨gb218, 1, none⟩ = some (.int .i64 0) := (blk_cell BK218.out 1).trans rfl; have hcz26_2 : wc.cell? ⟨gb218, 2, none⟩ = some (.string (⟨#[]⟩ : ByteArray)) := (blk_cell BK218.out 2).trans rfl; have hcz26_3 : wc.cell? ⟨gb218, 3, none⟩ = some (.int .i64 0) := (blk_cell BK218.out 3).trans rfl; have hcz26_4 : wc.cell? ⟨gb218, 4, none⟩ = some (.bool false) := (blk_cell BK218.out 4).trans rfl; have hcz26_5 : wc.cell? ⟨gb218, 5, none⟩ = some (.int .u64 0) := (blk_cell BK218.out 5).trans rfl; have hcz26_6 : wc.cell? ⟨gb218, 6, none⟩ = some (.int .i64 0) := (blk_cell BK218.out 6).trans rfl; have hcz26_7 : wc.cell? ⟨gb218, 7, none⟩ = some (.bool false) := (blk_cell BK218.out 7).trans rfl; have hfz26_0 := blk_frozen BK218.out 0; have hfz26_1 := blk_frozen BK218.out 1; have hfz26_2 := blk_frozen BK218.out 2; have hfz26_3 := blk_frozen BK218.out 3; have hfz26_4 := blk_frozen BK218.out 4; have hfz26_5 := blk_frozen BK218.out 5; have hfz26_6 := blk_frozen BK218.out 6; have hfz26_7 := blk_frozen BK218.out 7))
                  refine bodyPost_ret (results_ctt rfl _ _ gb218 43 #[.bool z_, .int .i64 3, .string (⟨#[]⟩ : ByteArray), .int .i64 0, .bool false, .int .u64 0, .int .i64 0, .bool false] (0, 0) _ rfl (by (with_reducible repeat (first | refine blk_drewN ?_ _ | refine blk_drew ?_ | refine blk_alloc ?_ _)); refine blk_put (cs := #[.bool z_, .int .i64 3, .string (⟨#[]⟩ : ByteArray), .int .i64 0, .bool false, .int .u64 0, .int .i64 0, .bool false]) ?_ 7 _ rfl; (with_reducible repeat (first | refine blk_drewN ?_ _ | refine blk_drew ?_ | refine blk_alloc ?_ _)); refine blk_put (cs := #[.bool z_, .int .i64 3, .string (⟨#[]⟩ : ByteArray), .int .i64 0, .bool false, .int .u64 0, .int .i64 0, .bool false]) ?_ 6 _ rfl; (with_reducible repeat (first | refine blk_drewN ?_ _ | refine blk_drew ?_ | refine blk_alloc ?_ _)); refine blk_put (cs := #[.bool z_, .int .i64 3, .string (⟨#[]⟩ : ByteArray), .int .i64 0, .bool false, .int .u64 0, .int .i64 0, .bool false]) ?_ 5 _ rfl; (with_reducible repeat (first | refine blk_drewN ?_ _ | refine blk_drew ?_ | refine blk_alloc ?_ _)); refine blk_put (cs := #[.bool z_, .int .i64 3, .string (⟨#[]⟩ : ByteArray), .int .i64 0, .bool false, .int .u64 0, .int .i64 0, .bool false]) ?_ 4 _ rfl; (with_reducible repeat (first | refine blk_drewN ?_ _ | refine blk_drew ?_ | refine blk_alloc ?_ _)); refine blk_put (cs := #[.bool z_, .int .i64 3, .string (⟨#[]⟩ : ByteArray), .int .i64 0, .bool false, .int .u64 0, .int .i64 0, .bool false]) ?_ 3 _ rfl; (with_reducible repeat (first | refine blk_drewN ?_ _ | refine blk_drew ?_ | refine blk_alloc ?_ _)); refine blk_put (cs := #[.bool z_, .int .i64 3, .string (⟨#[]⟩ : ByteArray), .int .i64 0, .bool false, .int .u64 0, .int .i64 0, .bool false]) ?_ 2 _ rfl; (with_reducible repeat (first | refine blk_drewN ?_ _ | refine blk_drew ?_ | refine blk_alloc ?_ _)); refine blk_put (cs := #[.bool z_, .int .i64 0, .string (⟨#[]⟩ : ByteArray), .int .i64 0, .bool false, .int .u64 0, .int .i64 0, .bool false]) ?_ 1 _ rfl; (with_reducible repeat (first | refine blk_drewN ?_ _ | refine blk_drew ?_ | refine blk_alloc ?_ _)); refine blk_put (cs := #[.bool false, .int .i64 0, .string (⟨#[]⟩ : ByteArray), .int .i64 0, .bool false, .int .u64 0, .int .i64 0, .bool false]) ?_ 0 _ rfl; (with_reducible repeat (first | refine blk_drewN ?_ _ | refine blk_drew ?_ | refine blk_alloc ?_ _)); refine blk_far ?_ NB218_220.out _; (with_reducible repeat (first | refine blk_drewN ?_ _ | refine blk_drew ?_ | refine blk_alloc ?_ _)); exact BK218.out) Tryd.underlying43 rfl (by kernel_rfl)) rfl ?_
                  exact ⟨by first | rfl | (simp [errW_none, errW_some] <;> rfl) | (simp [*, errW_none, errW_some] <;> rfl), by repeat (first | (with_reducible first | exact HB.out | apply below_alloc | apply pw_below_drewN | apply below_drew1 | refine below_set ?_ GE218.out | refine below_set ?_ GE220.out) | exact HB.out)⟩
                · replace c23 := Bool.eq_false_iff.mpr c23
                  subst c23
                  have H1 : ((numeralref10_word.f kj15 a0 x6_13 (⟨#[105, 110, 102]⟩ : ByteArray)).bind fun t224 => (if t224 = true then (some (z_, 3, (⟨#[]⟩ : ByteArray), 0, false, 0, 0, false, wrap64 (x6_13 + 3), 0)) else ((numeralref10_at.f a0 x6_13).bind fun t225 => (if t225 = 48 then ((numeralref10_at.f a0 (wrap64 (x6_13 + 1))).bind fun t226 => ((numeralref10_small.f t226).bind fun t227 => (numeralref10_Prefix.j3 kj15 a0 x6_13 (t227 == 120) z_ 0 (⟨#[]⟩ : ByteArray) 0 false 0 0 false))) else (numeralref10_Prefix.j3 kj15 a0 x6_13 false z_ 0 (⟨#[]⟩ : ByteArray) 0 false 0 0 false))))) = some (r1, r2, r3, r4, r5, r6, r7, r8, r9, r10) := by rw [if_neg (show ¬ (false = true) by decide)] at H; exact H
                  clear H
                  have H := H1
                  clear H1
                  replace H := Option.bind_eq_some_iff.mp H
                  obtain ⟨t224, A270, H⟩ := H
                  replace H : (if t224 = true then (some (z_, 3, (⟨#[]⟩ : ByteArray), 0, false, 0, 0, false, wrap64 (x6_13 + 3), 0)) else ((numeralref10_at.f a0 x6_13).bind fun t225 => (if t225 = 48 then ((numeralref10_at.f a0 (wrap64 (x6_13 + 1))).bind fun t226 => ((numeralref10_small.f t226).bind fun t227 => (numeralref10_Prefix.j3 kj15 a0 x6_13 (t227 == 120) z_ 0 (⟨#[]⟩ : ByteArray) 0 false 0 0 false))) else (numeralref10_Prefix.j3 kj15 a0 x6_13 false z_ 0 (⟨#[]⟩ : ByteArray) 0 false 0 0 false)))) = some (r1, r2, r3, r4, r5, r6, r7, r8, r9, r10) := H
                  have A27 := Aside0.mk A270
                  clear A270
                  by_cases c28 : t224 = true
                  · subst c28
                    have H1 : (some (z_, 3, (⟨#[]⟩ : ByteArray), 0, false, 0, 0, false, wrap64 (x6_13 + 3), 0)) = some (r1, r2, r3, r4, r5, r6, r7, r8, r9, r10) := by rw [if_pos rfl] at H; exact H
                    clear H
                    have H := H1
                    clear H1
                    simp only [Option.some.injEq, Prod.mk.injEq] at H
                    obtain ⟨rfl, rfl, rfl, rfl, rfl, rfl, rfl, rfl, rfl, rfl⟩ := H
                    go_wp2_with (first | ((with_reducible refine gate_callee (f := 35) rfl ?_); refine goesL_ (some 45) rfl rfl Tryd.func35 (by kernel_rfl) rfl #[.string a0, .int .i64 x6_13, .string (⟨#[105, 110, 102, 105, 110, 105, 116, 121]⟩ : ByteArray)] rfl (by (try simp only [List.map_toArray, List.map_cons, List.map_nil]); first | done | rfl | (simp only [List.length_drop, List.length_take]; rfl)) ?_; (with_reducible refine (numeralref10_word.calls kj15 a0 x6_13 (⟨#[105, 110, 102, 105, 110, 105, 116, 121]⟩ : ByteArray) false _ A22.out).mono ?_); rintro e w' ⟨rfl, ⟨nd, rfl⟩⟩; refine ⟨_, rfl, ?_⟩; (try (rw [drewN_self wc]; generalize hq_ : World.drewN wc _ = wc; have n0_ : Aside0 (wc.heap[gb218]? = some (.cells #[.bool false, .int .i64 0, .string (⟨#[]⟩ : ByteArray), .int .i64 0, .bool false, .int .u64 0, .int .i64 0, .bool false] 43 (0, 0))) := ⟨by rw [← hq_]; exact (by (with_reducible repeat (first | refine blk_drewN ?_ _ | refine blk_drew ?_ | refine blk_alloc ?_ _)); exact BK218.out)⟩; have n1_ : Aside0 (wc.heap[gb220]? = some (.cells #[.bool z_, .int .i64 0, .string (⟨#[]⟩ : ByteArray), .int .i64 0, .bool false, .int .u64 0, .int .i64 0, .bool false] 43 (0, 0))) := ⟨by rw [← hq_]; exact (by (with_reducible repeat (first | refine blk_drewN ?_ _ | refine blk_drew ?_ | refine blk_alloc ?_ _)); exact BK220.out)⟩; have n2_ : Aside0 (Below w.heap.size w wc) := ⟨by rw [← hq_]; exact (by repeat (first | (with_reducible first | exact HB.out | apply below_alloc | apply pw_below_drewN | apply below_drew1 | refine below_set ?_ GE218.out | refine below_set ?_ GE220.out) | exact HB.out))⟩; clear BK218 BK220 HB hq_; have BK218 := n0_; have BK220 := n1_; have HB := n2_; clear n0_ n1_ n2_))) | ((with_reducible refine gate_callee (f := 35) rfl ?_); refine goesL_ (some 53) rfl rfl Tryd.func35 (by kernel_rfl) rfl #[.string a0, .int .i64 x6_13, .string (⟨#[105, 110, 102]⟩ : ByteArray)] rfl (by (try simp only [List.map_toArray, List.map_cons, List.map_nil]); first | done | rfl | (simp only [List.length_drop, List.length_take]; rfl)) ?_; (with_reducible refine (numeralref10_word.calls kj15 a0 x6_13 (⟨#[105, 110, 102]⟩ : ByteArray) true _ A27.out).mono ?_); rintro e w' ⟨rfl, ⟨nd, rfl⟩⟩; refine ⟨_, rfl, ?_⟩; (try (rw [drewN_self wc]; generalize hq_ : World.drewN wc _ = wc; have n0_ : Aside0 (wc.heap[gb218]? = some (.cells #[.bool false, .int .i64 0, .string (⟨#[]⟩ : ByteArray), .int .i64 0, .bool false, .int .u64 0, .int .i64 0, .bool false] 43 (0, 0))) := ⟨by rw [← hq_]; exact (by (with_reducible repeat (first | refine blk_drewN ?_ _ | refine blk_drew ?_ | refine blk_alloc ?_ _)); exact BK218.out)⟩; have n1_ : Aside0 (wc.heap[gb220]? = some (.cells #[.bool z_, .int .i64 0, .string (⟨#[]⟩ : ByteArray), .int .i64 0, .bool false, .int .u64 0, .int .i64 0, .bool false] 43 (0, 0))) := ⟨by rw [← hq_]; exact (by (with_reducible repeat (first | refine blk_drewN ?_ _ | refine blk_drew ?_ | refine blk_alloc ?_ _)); exact BK220.out)⟩; have n2_ : Aside0 (Below w.heap.size w wc) := ⟨by rw [← hq_]; exact (by repeat (first | (with_reducible first | exact HB.out | apply below_alloc | apply pw_below_drewN | apply below_drew1 | refine below_set ?_ GE218.out | refine below_set ?_ GE220.out) | exact HB.out))⟩; clear BK218 BK220 HB hq_; have BK218 := n0_; have BK220 := n1_; have HB := n2_; clear n0_ n1_ n2_)); have hnb29 := NB220_218.out; have hnc29 := NB218_220.out; have hcz30_0 : wc.cell? ⟨gb220, 0, none⟩ = some (.bool z_) := (blk_cell BK220.out 0).trans rfl; have hcz30_1 : wc.cell? ⟨gb220, 1, none⟩ = some (.int .i64 0) := (blk_cell BK220.out 1).trans rfl; have hcz30_2 : wc.cell? ⟨gb220, 2, none⟩ = some (.string (⟨#[]⟩ : ByteArray)) := (blk_cell BK220.out 2).trans rfl; have hcz30_3 : wc.cell? ⟨gb220, 3, none⟩ = some (.int .i64 0) := (blk_cell BK220.out 3).trans rfl; have hcz30_4 : wc.cell? ⟨gb220, 4, none⟩ = some (.bool false) := (blk_cell BK220.out 4).trans rfl; have hcz30_5 : wc.cell? ⟨gb220, 5, none⟩ = some (.int .u64 0) := (blk_cell BK220.out 5).trans rfl; have hcz30_6 : wc.cell? ⟨gb220, 6, none⟩ = some (.int .i64 0) := (blk_cell BK220.out 6).trans rfl; have hcz30_7 : wc.cell? ⟨gb220, 7, none⟩ = some (.bool false) := (blk_cell BK220.out 7).trans rfl; have hfz30_0 := blk_frozen BK220.out 0; have hfz30_1 := blk_frozen BK220.out 1; have hfz30_2 := blk_frozen BK220.out 2; have hfz30_3 := blk_frozen BK220.out 3; have hfz30_4 := blk_frozen BK220.out 4; have hfz30_5 := blk_frozen BK220.out 5; have hfz30_6 := blk_frozen BK220.out 6; have hfz30_7 := blk_frozen BK220.out 7; have hcz31_0 : wc.cell? ⟨gb218, 0, none⟩ = some (.bool false) := (blk_cell BK218.out 0).trans rfl; have hcz31_1 : wc.cell? ⟨gb218, 1, none⟩ = some (.int .i64 0) := (blk_cell BK218.out 1).trans rfl; have hcz31_2 : wc.cell? ⟨gb218, 2, none⟩ = some (.string (⟨#[]⟩ : ByteArray)) := (blk_cell BK218.out 2).trans rfl; have hcz31_3 : wc.cell? ⟨gb218, 3, none⟩ = some (.int .i64 0) := (blk_cell BK218.out 3).trans rfl; have hcz31_4 : wc.cell? ⟨gb218, 4, none⟩ = some (.bool false) := (blk_cell BK218.out 4).trans rfl; have hcz31_5 : wc.cell? ⟨gb218, 5, none⟩ = some (.int .u64 0) := (blk_cell BK218.out 5).trans rfl; have hcz31_6 : wc.cell? ⟨gb218, 6, none⟩ = some (.int .i64 0) := (blk_cell BK218.out 6).trans rfl; have hcz31_7 : wc.cell? ⟨gb218, 7, none⟩ = some (.bool false) := (blk_cell BK218.out 7).trans rfl; have hfz31_0 := blk_frozen BK218.out 0; have hfz31_1 := blk_frozen BK218.out 1; have hfz31_2 := blk_frozen BK218.out 2; have hfz31_3 := blk_frozen BK218.out 3; have hfz31_4 := blk_frozen BK218.out 4; have hfz31_5 := blk_frozen BK218.out 5; have hfz31_6 := blk_frozen BK218.out 6; have hfz31_7 := blk_frozen BK218.out 7))
                    refine bodyPost_ret (results_ctt rfl _ _ gb218 43 #[.bool z_, .int .i64 3, .string (⟨#[]⟩ : ByteArray), .int .i64 0, .bool false, .int .u64 0, .int .i64 0, .bool false] (0, 0) _ rfl (by (with_reducible repeat (first | refine blk_drewN ?_ _ | refine blk_drew ?_ | refine blk_alloc ?_ _)); refine blk_put (cs := #[.bool z_, .int .i64 3, .string (⟨#[]⟩ : ByteArray), .int .i64 0, .bool false, .int .u64 0, .int .i64 0, .bool false]) ?_ 7 _ rfl; (with_reducible repeat (first | refine blk_drewN ?_ _ | refine blk_drew ?_ | refine blk_alloc ?_ _)); refine blk_put (cs := #[.bool z_, .int .i64 3, .string (⟨#[]⟩ : ByteArray), .int .i64 0, .bool false, .int .u64 0, .int .i64 0, .bool false]) ?_ 6 _ rfl; (with_reducible repeat (first | refine blk_drewN ?_ _ | refine blk_drew ?_ | refine blk_alloc ?_ _)); refine blk_put (cs := #[.bool z_, .int .i64 3, .string (⟨#[]⟩ : ByteArray), .int .i64 0, .bool false, .int .u64 0, .int .i64 0, .bool false]) ?_ 5 _ rfl; (with_reducible repeat (first | refine blk_drewN ?_ _ | refine blk_drew ?_ | refine blk_alloc ?_ _)); refine blk_put (cs := #[.bool z_, .int .i64 3, .string (⟨#[]⟩ : ByteArray), .int .i64 0, .bool false, .int .u64 0, .int .i64 0, .bool false]) ?_ 4 _ rfl; (with_reducible repeat (first | refine blk_drewN ?_ _ | refine blk_drew ?_ | refine blk_alloc ?_ _)); refine blk_put (cs := #[.bool z_, .int .i64 3, .string (⟨#[]⟩ : ByteArray), .int .i64 0, .bool false, .int .u64 0, .int .i64 0, .bool false]) ?_ 3 _ rfl; (with_reducible repeat (first | refine blk_drewN ?_ _ | refine blk_drew ?_ | refine blk_alloc ?_ _)); refine blk_put (cs := #[.bool z_, .int .i64 3, .string (⟨#[]⟩ : ByteArray), .int .i64 0, .bool false, .int .u64 0, .int .i64 0, .bool false]) ?_ 2 _ rfl; (with_reducible repeat (first | refine blk_drewN ?_ _ | refine blk_drew ?_ | refine blk_alloc ?_ _)); refine blk_put (cs := #[.bool z_, .int .i64 0, .string (⟨#[]⟩ : ByteArray), .int .i64 0, .bool false, .int .u64 0, .int .i64 0, .bool false]) ?_ 1 _ rfl; (with_reducible repeat (first | refine blk_drewN ?_ _ | refine blk_drew ?_ | refine blk_alloc ?_ _)); refine blk_put (cs := #[.bool false, .int .i64 0, .string (⟨#[]⟩ : ByteArray), .int .i64 0, .bool false, .int .u64 0, .int .i64 0, .bool false]) ?_ 0 _ rfl; (with_reducible repeat (first | refine blk_drewN ?_ _ | refine blk_drew ?_ | refine blk_alloc ?_ _)); refine blk_far ?_ NB218_220.out _; (with_reducible repeat (first | refine blk_drewN ?_ _ | refine blk_drew ?_ | refine blk_alloc ?_ _)); exact BK218.out) Tryd.underlying43 rfl (by kernel_rfl)) rfl ?_
                    exact ⟨by first | rfl | (simp [errW_none, errW_some] <;> rfl) | (simp [*, errW_none, errW_some] <;> rfl), by repeat (first | (with_reducible first | exact HB.out | apply below_alloc | apply pw_below_drewN | apply below_drew1 | refine below_set ?_ GE218.out | refine below_set ?_ GE220.out) | exact HB.out)⟩
                  · replace c28 := Bool.eq_false_iff.mpr c28
                    subst c28
                    have H1 : ((numeralref10_at.f a0 x6_13).bind fun t225 => (if t225 = 48 then ((numeralref10_at.f a0 (wrap64 (x6_13 + 1))).bind fun t226 => ((numeralref10_small.f t226).bind fun t227 => (numeralref10_Prefix.j3 kj15 a0 x6_13 (t227 == 120) z_ 0 (⟨#[]⟩ : ByteArray) 0 false 0 0 false))) else (numeralref10_Prefix.j3 kj15 a0 x6_13 false z_ 0 (⟨#[]⟩ : ByteArray) 0 false 0 0 false))) = some (r1, r2, r3, r4, r5, r6, r7, r8, r9, r10) := by rw [if_neg (show ¬ (false = true) by decide)] at H; exact H
                    clear H
                    have H := H1
                    clear H1
                    have HC32 := Aside0.mk H
                    clear H
                    go_upto_region 13 with (first | ((with_reducible refine gate_callee (f := 35) rfl ?_); refine goesL_ (some 45) rfl rfl Tryd.func35 (by kernel_rfl) rfl #[.string a0, .int .i64 x6_13, .string (⟨#[105, 110, 102, 105, 110, 105, 116, 121]⟩ : ByteArray)] rfl (by (try simp only [List.map_toArray, List.map_cons, List.map_nil]); first | done | rfl | (simp only [List.length_drop, List.length_take]; rfl)) ?_; (with_reducible refine (numeralref10_word.calls kj15 a0 x6_13 (⟨#[105, 110, 102, 105, 110, 105, 116, 121]⟩ : ByteArray) false _ A22.out).mono ?_); rintro e w' ⟨rfl, ⟨nd, rfl⟩⟩; refine ⟨_, rfl, ?_⟩) | ((with_reducible refine gate_callee (f := 35) rfl ?_); refine goesL_ (some 53) rfl rfl Tryd.func35 (by kernel_rfl) rfl #[.string a0, .int .i64 x6_13, .string (⟨#[105, 110, 102]⟩ : ByteArray)] rfl (by (try simp only [List.map_toArray, List.map_cons, List.map_nil]); first | done | rfl | (simp only [List.length_drop, List.length_take]; rfl)) ?_; (with_reducible refine (numeralref10_word.calls kj15 a0 x6_13 (⟨#[105, 110, 102]⟩ : ByteArray) false _ A27.out).mono ?_); rintro e w' ⟨rfl, ⟨nd, rfl⟩⟩; refine ⟨_, rfl, ?_⟩))
                    (try simp only [Act.put, List.setIfInBounds_toArray, List.set_cons_zero, List.set_cons_succ])
                    go_cut [69] (fun v69 wc => ∃ (kq : Nat) (x69_31 : Bool), v69 = .bool x69_31 ∧ Aside0 (numeralref10_Prefix.j3 kq a0 x6_13 x69_31 z_ 0 (⟨#[]⟩ : ByteArray) 0 false 0 0 false = some (r1, r2, r3, r4, r5, r6, r7, r8, r9, r10)) ∧ Aside0 (kq ≤ kj15) ∧ Aside0 (wc.heap[gb218]? = some (.cells #[.bool false, .int .i64 0, .string (⟨#[]⟩ : ByteArray), .int .i64 0, .bool false, .int .u64 0, .int .i64 0, .bool false] 43 (0, 0))) ∧ Aside0 (wc.heap[gb220]? = some (.cells #[.bool z_, .int .i64 0, .string (⟨#[]⟩ : ByteArray), .int .i64 0, .bool false, .int .u64 0, .int .i64 0, .bool false] 43 (0, 0))) ∧ Aside0 (Below w.heap.size w wc))
                    case first =>
                      have H := HC32.out
                      clear HC32
                      replace H := Option.bind_eq_some_iff.mp H
                      obtain ⟨t225, A330, H⟩ := H
                      replace H : (if t225 = 48 then ((numeralref10_at.f a0 (wrap64 (x6_13 + 1))).bind fun t226 => ((numeralref10_small.f t226).bind fun t227 => (numeralref10_Prefix.j3 kj15 a0 x6_13 (t227 == 120) z_ 0 (⟨#[]⟩ : ByteArray) 0 false 0 0 false))) else (numeralref10_Prefix.j3 kj15 a0 x6_13 false z_ 0 (⟨#[]⟩ : ByteArray) 0 false 0 0 false)) = some (r1, r2, r3, r4, r5, r6, r7, r8, r9, r10) := H
                      have A33 := Aside0.mk A330
                      clear A330
                      by_cases c34 : t225 = 48
                      · rw [if_pos c34] at H
                        have c34b0 : (t225 == 48) = true := beq_iff_eq.mpr c34
                        have c34b1 : (t225 != 48) = false := bne_eq_false_iff_eq.mpr c34
                        clear c34
                        (first | rw [c34b0] | (simp only [i64_w, i32_w]; rw [c34b0]) | skip)
                        replace H := Option.bind_eq_some_iff.mp H
                        obtain ⟨t226, A350, H⟩ := H
                        replace H : ((numeralref10_small.f t226).bind fun t227 => (numeralref10_Prefix.j3 kj15 a0 x6_13 (t227 == 120) z_ 0 (⟨#[]⟩ : ByteArray) 0 false 0 0 false)) = some (r1, r2, r3, r4, r5, r6, r7, r8, r9, r10) := H
                        have A35 := Aside0.mk A350
                        clear A350
                        replace H := Option.bind_eq_some_iff.mp H
                        obtain ⟨t227, A360, H⟩ := H
                        replace H : (numeralref10_Prefix.j3 kj15 a0 x6_13 (t227 == 120) z_ 0 (⟨#[]⟩ : ByteArray) 0 false 0 0 false) = some (r1, r2, r3, r4, r5, r6, r7, r8, r9, r10) := H
                        have A36 := Aside0.mk A360
                        clear A360
                        have H' := Aside0.mk H
                        clear H
                        go_wp2_with (first | ((with_reducible refine gate_callee (f := 34) rfl ?_); refine goesL_ (some 60) rfl rfl Tryd.func34 (by kernel_rfl) rfl #[.string a0, .int .i64 x6_13] rfl (by (try simp only [List.map_toArray, List.map_cons, List.map_nil]); first | done | rfl | (simp only [List.length_drop, List.length_take]; rfl)) ?_; (with_reducible refine (numeralref10_at.calls a0 x6_13 t225 _ A33.out).mono ?_); rintro e w' ⟨rfl, ⟨nd, rfl⟩⟩; refine ⟨_, rfl, ?_⟩) | (go_at_call 34; (with_reducible refine (numeralref10_at.calls a0 (wrap64 (x6_13 + 1)) t226 _ A35.out).mono ?_); rintro e w' ⟨rfl, ⟨nd, rfl⟩⟩) | (go_at_call 36; (with_reducible refine (numeralref10_small.calls t226 t227 _ A36.out).mono ?_); rintro e w' ⟨rfl, ⟨nd, rfl⟩⟩))
                        go_meet
                        case rel => exact ⟨_, ((t227 == 120)), (by first | rfl | (simp; done) | (simp [*]; done)), H', ⟨by have := HJ2.out; have := HJ13.out; have := HJ15.out; first | omega | exact Nat.le_refl _⟩, ⟨by (with_reducible repeat (first | refine blk_drewN ?_ _ | refine blk_drew ?_ | refine blk_alloc ?_ _)); exact BK218.out⟩, ⟨by (with_reducible repeat (first | refine blk_drewN ?_ _ | refine blk_drew ?_ | refine blk_alloc ?_ _)); exact BK220.out⟩, ⟨by repeat (first | (with_reducible first | exact HB.out | apply below_alloc | apply pw_below_drewN | apply below_drew1 | refine below_set ?_ GE218.out | refine below_set ?_ GE220.out) | exact HB.out)⟩⟩
                      · rw [if_neg c34] at H
                        have c34b0 : (t225 == 48) = false := beq_eq_false_iff_ne.mpr c34
                        have c34b1 : (t225 != 48) = true := bne_iff_ne.mpr c34
                        (first | rw [c34b0] | (simp only [i64_w, i32_w]; rw [c34b0]) | skip)
                        have H' := Aside0.mk H
                        clear H
                        go_wp2_with (first | ((with_reducible refine gate_callee (f := 34) rfl ?_); refine goesL_ (some 60) rfl rfl Tryd.func34 (by kernel_rfl) rfl #[.string a0, .int .i64 x6_13] rfl (by (try simp only [List.map_toArray, List.map_cons, List.map_nil]); first | done | rfl | (simp only [List.length_drop, List.length_take]; rfl)) ?_; (with_reducible refine (numeralref10_at.calls a0 x6_13 t225 _ A33.out).mono ?_); rintro e w' ⟨rfl, ⟨nd, rfl⟩⟩; refine ⟨_, rfl, ?_⟩))
                        go_meet
                        case rel => exact ⟨_, (false), (by first | rfl | (simp; done) | (simp [*]; done)), H', ⟨by have := HJ2.out; have := HJ13.out; have := HJ15.out; first | omega | exact Nat.le_refl _⟩, ⟨by (with_reducible repeat (first | refine blk_drewN ?_ _ | refine blk_drew ?_ | refine blk_alloc ?_ _)); exact BK218.out⟩, ⟨by (with_reducible repeat (first | refine blk_drewN ?_ _ | refine blk_drew ?_ | refine blk_alloc ?_ _)); exact BK220.out⟩, ⟨by repeat (first | (with_reducible first | exact HB.out | apply below_alloc | apply pw_below_drewN | apply below_drew1 | refine below_set ?_ GE218.out | refine below_set ?_ GE220.out) | exact HB.out)⟩⟩
                    case rest =>
                      clear HC32
                      try clear c1
                      try clear c2
                      try clear p2
                      try clear c3
                      try clear c6
                      try clear p6
                      try clear c8
                      try clear c8b0
                      try clear c8b1
                      try clear c9
                      try clear c12
                      try clear c15
                      try clear c17
                      try clear c17b0
                      try clear c17b1
                      try clear c19
                      try clear c20
                      try clear c23
                      try clear c24
                      try clear c26
                      try clear c28
                      try clear c29
                      try clear c34
                      try clear c34b0
                      try clear c34b1
                      try clear c35
                      try clear hcz10_0
                      try clear hcz10_1
                      try clear hcz10_2
                      try clear hcz10_3
                      try clear hcz10_4
                      try clear hcz10_5
                      try clear hcz10_6
                      try clear hcz10_7
                      try clear hcz13_0
                      try clear hcz13_1
                      try clear hcz13_2
                      try clear hcz13_3
                      try clear hcz13_4
                      try clear hcz13_5
                      try clear hcz13_6
                      try clear hcz13_7
                      try clear hcz21_0
                      try clear hcz21_1
                      try clear hcz21_2
                      try clear hcz21_3
                      try clear hcz21_4
                      try clear hcz21_5
                      try clear hcz21_6
                      try clear hcz21_7
                      try clear hcz25_0
                      try clear hcz25_1
                      try clear hcz25_2
                      try clear hcz25_3
                      try clear hcz25_4
                      try clear hcz25_5
                      try clear hcz25_6
                      try clear hcz25_7
                      try clear hcz26_0
                      try clear hcz26_1
                      try clear hcz26_2
                      try clear hcz26_3
                      try clear hcz26_4
                      try clear hcz26_5
                      try clear hcz26_6
                      try clear hcz26_7
                      try clear hcz30_0
                      try clear hcz30_1
                      try clear hcz30_2
                      try clear hcz30_3
                      try clear hcz30_4
                      try clear hcz30_5
                      try clear hcz30_6
                      try clear hcz30_7
                      try clear hcz31_0
                      try clear hcz31_1
                      try clear hcz31_2
                      try clear hcz31_3
                      try clear hcz31_4
                      try clear hcz31_5
                      try clear hcz31_6
                      try clear hcz31_7
                      try clear hcz7_0
                      try clear hcz7_1
                      try clear hcz7_2
                      try clear hcz7_3
                      try clear hcz7_4
                      try clear hcz7_5
                      try clear hcz7_6
                      try clear hcz7_7
                      try clear hfz10_0
                      try clear hfz10_1
                      try clear hfz10_2
                      try clear hfz10_3
                      try clear hfz10_4
                      try clear hfz10_5
                      try clear hfz10_6
                      try clear hfz10_7
                      try clear hfz13_0
                      try clear hfz13_1
                      try clear hfz13_2
                      try clear hfz13_3
                      try clear hfz13_4
                      try clear hfz13_5
                      try clear hfz13_6
                      try clear hfz13_7
                      try clear hfz21_0
                      try clear hfz21_1
                      try clear hfz21_2
                      try clear hfz21_3
                      try clear hfz21_4
                      try clear hfz21_5
                      try clear hfz21_6
                      try clear hfz21_7
                      try clear hfz25_0
                      try clear hfz25_1
                      try clear hfz25_2
                      try clear hfz25_3
                      try clear hfz25_4
                      try clear hfz25_5
                      try clear hfz25_6
                      try clear hfz25_7
                      try clear hfz26_0
                      try clear hfz26_1
                      try clear hfz26_2
                      try clear hfz26_3
                      try clear hfz26_4
                      try clear hfz26_5
                      try clear hfz26_6
                      try clear hfz26_7
                      try clear hfz30_0
                      try clear hfz30_1
                      try clear hfz30_2
                      try clear hfz30_3
                      try clear hfz30_4
                      try clear hfz30_5
                      try clear hfz30_6
                      try clear hfz30_7
                      try clear hfz31_0
                      try clear hfz31_1
                      try clear hfz31_2
                      try clear hfz31_3
                      try clear hfz31_4
                      try clear hfz31_5
                      try clear hfz31_6
                      try clear hfz31_7
                      try clear hfz7_0
                      try clear hfz7_1
                      try clear hfz7_2
                      try clear hfz7_3
                      try clear hfz7_4
                      try clear hfz7_5
                      try clear hfz7_6
                      try clear hfz7_7
                      try clear p2
                      obtain ⟨kq, x69_31, rfl, HA, HJ31, BK218, BK220, HB⟩ := hcut
                      cases kq with
                      | zero => exact absurd HA.out (by simp [numeralref10_Prefix.j3])
                      | succ kj31 =>
                        have H := HA.out
                        clear HA
                        simp only [numeralref10_Prefix.j3] at H
                        have HC37 := Aside0.mk H
                        clear H
                        go_upto_if 69 with (fail)
                        go_cut [] (fun wc => ∃ (kq : Nat) (x219000_36 : Bool) (x219001_36 : Int) (x219002_36 : ByteArray) (x219003_36 : Int) (x219004_36 : Bool) (x219005_36 : Int) (x219006_36 : Int) (x219007_36 : Bool), Aside0 (numeralref10_Prefix.j5 kq a0 x6_13 z_ 0 (⟨#[]⟩ : ByteArray) 0 false 0 0 false = some (r1, r2, r3, r4, r5, r6, r7, r8, r9, r10)) ∧ Aside0 (kq ≤ kj31) ∧ Aside0 (wc.heap[gb218]? = some (.cells #[.bool x219000_36, .int .i64 x219001_36, .string x219002_36, .int .i64 x219003_36, .bool x219004_36, .int .u64 x219005_36, .int .i64 x219006_36, .bool x219007_36] 43 (0, 0))) ∧ Aside0 (wc.heap[gb220]? = some (.cells #[.bool z_, .int .i64 0, .string (⟨#[]⟩ : ByteArray), .int .i64 0, .bool false, .int .u64 0, .int .i64 0, .bool false] 43 (0, 0))) ∧ Aside0 (Below w.heap.size w wc))
                        case first =>
                          have H := HC37.out
                          clear HC37
                          by_cases c38 : x69_31 = true
                          · subst c38
                            have H1 : ((numeralref10_mantissa.f kj31 a0 (wrap64 (x6_13 + 2)) true).bind fun bt228 => (if bt228.2.2.2 = true then ((numeralref10_at.f a0 bt228.2.2.1).bind fun t232 => ((numeralref10_small.f t232).bind fun t233 => (numeralref10_Prefix.j4 kj31 a0 x6_13 bt228.1 bt228.2.1 bt228.2.2.1 (t233 == 112) z_ 0 (⟨#[]⟩ : ByteArray) 0 false 0 0 false))) else (numeralref10_Prefix.j4 kj31 a0 x6_13 bt228.1 bt228.2.1 bt228.2.2.1 false z_ 0 (⟨#[]⟩ : ByteArray) 0 false 0 0 false))) = some (r1, r2, r3, r4, r5, r6, r7, r8, r9, r10) := by rw [if_pos rfl] at H; exact H
                            clear H
                            have H := H1
                            clear H1
                            replace H := Option.bind_eq_some_iff.mp H
                            obtain ⟨⟨t228, t229, t230, t231⟩, A390, H⟩ := H
                            replace H : (if t231 = true then ((numeralref10_at.f a0 t230).bind fun t232 => ((numeralref10_small.f t232).bind fun t233 => (numeralref10_Prefix.j4 kj31 a0 x6_13 t228 t229 t230 (t233 == 112) z_ 0 (⟨#[]⟩ : ByteArray) 0 false 0 0 false))) else (numeralref10_Prefix.j4 kj31 a0 x6_13 t228 t229 t230 false z_ 0 (⟨#[]⟩ : ByteArray) 0 false 0 0 false)) = some (r1, r2, r3, r4, r5, r6, r7, r8, r9, r10) := H
                            have A39 := Aside0.mk A390
                            clear A390
                            have HC40 := Aside0.mk H
                            clear H
                            go_upto_region 15 with (first | ((with_reducible refine gate_callee (f := 37) rfl ?_); refine goesL_ (some 74) rfl rfl Tryd.func37 (by kernel_rfl) rfl #[.string a0, .int .i64 (wrap64 (x6_13 + 2)), .bool true] rfl (by (try simp only [List.map_toArray, List.map_cons, List.map_nil]); first | done | rfl | (simp only [List.length_drop, List.length_take]; rfl)) ?_; (with_reducible refine (numeralref10_mantissa.calls kj31 a0 (wrap64 (x6_13 + 2)) true t228 t229 t230 t231 _ A39.out).mono ?_); rintro e w41 ⟨rfl, hb⟩; refine ⟨_, rfl, ?_⟩; have n0_ := Aside0.mk (blk_below (g := gb218) (o := .cells #[.bool false, .int .i64 0, .string (⟨#[]⟩ : ByteArray), .int .i64 0, .bool false, .int .u64 0, .int .i64 0, .bool false] 43 (0, 0)) (by (with_reducible repeat (first | refine blk_drewN ?_ _ | refine blk_drew ?_ | refine blk_alloc ?_ _)); exact BK218.out) hb); have n1_ := Aside0.mk (blk_below (g := gb220) (o := .cells #[.bool z_, .int .i64 0, .string (⟨#[]⟩ : ByteArray), .int .i64 0, .bool false, .int .u64 0, .int .i64 0, .bool false] 43 (0, 0)) (by (with_reducible repeat (first | refine blk_drewN ?_ _ | refine blk_drew ?_ | refine blk_alloc ?_ _)); exact BK220.out) hb); have n2_ := Aside0.mk (below_step (by repeat (first | (with_reducible first | exact HB.out | apply below_alloc | apply pw_below_drewN | apply below_drew1 | refine below_set ?_ GE218.out | refine below_set ?_ GE220.out) | exact HB.out)) hb); clear BK218; clear BK220; clear HB; have BK218 := n0_; have BK220 := n1_; have HB := n2_; clear n0_ n1_ n2_; (try clear hb); (try clear hb2); (try clear hk); (try clear hi)))
                            (try simp only [Act.put, List.setIfInBounds_toArray, List.set_cons_zero, List.set_cons_succ])
                            go_cut [86] (fun v86 wc => ∃ (kq : Nat) (x86_39 : Bool), v86 = .bool x86_39 ∧ Aside0 (numeralref10_Prefix.j4 kq a0 x6_13 t228 t229 t230 x86_39 z_ 0 (⟨#[]⟩ : ByteArray) 0 false 0 0 false = some (r1, r2, r3, r4, r5, r6, r7, r8, r9, r10)) ∧ Aside0 (kq ≤ kj31) ∧ Aside0 (wc.heap[gb218]? = some (.cells #[.bool false, .int .i64 0, .string (⟨#[]⟩ : ByteArray), .int .i64 0, .bool false, .int .u64 0, .int .i64 0, .bool false] 43 (0, 0))) ∧ Aside0 (wc.heap[gb220]? = some (.cells #[.bool z_, .int .i64 0, .string (⟨#[]⟩ : ByteArray), .int .i64 0, .bool false, .int .u64 0, .int .i64 0, .bool false] 43 (0, 0))) ∧ Aside0 (Below w.heap.size w wc))
                            case first =>
                              have H := HC40.out
                              clear HC40
                              by_cases c42 : t231 = true
                              · subst c42
                                have H1 : ((numeralref10_at.f a0 t230).bind fun t232 => ((numeralref10_small.f t232).bind fun t233 => (numeralref10_Prefix.j4 kj31 a0 x6_13 t228 t229 t230 (t233 == 112) z_ 0 (⟨#[]⟩ : ByteArray) 0 false 0 0 false))) = some (r1, r2, r3, r4, r5, r6, r7, r8, r9, r10) := by rw [if_pos rfl] at H; exact H
                                clear H
                                have H := H1
                                clear H1
                                replace H := Option.bind_eq_some_iff.mp H
                                obtain ⟨t232, A430, H⟩ := H
                                replace H : ((numeralref10_small.f t232).bind fun t233 => (numeralref10_Prefix.j4 kj31 a0 x6_13 t228 t229 t230 (t233 == 112) z_ 0 (⟨#[]⟩ : ByteArray) 0 false 0 0 false)) = some (r1, r2, r3, r4, r5, r6, r7, r8, r9, r10) := H
                                have A43 := Aside0.mk A430
                                clear A430
                                replace H := Option.bind_eq_some_iff.mp H
                                obtain ⟨t233, A440, H⟩ := H
                                replace H : (numeralref10_Prefix.j4 kj31 a0 x6_13 t228 t229 t230 (t233 == 112) z_ 0 (⟨#[]⟩ : ByteArray) 0 false 0 0 false) = some (r1, r2, r3, r4, r5, r6, r7, r8, r9, r10) := H
                                have A44 := Aside0.mk A440
                                clear A440
                                have H' := Aside0.mk H
                                clear H
                                go_wp2_with (first | (go_at_call 34; (with_reducible refine (numeralref10_at.calls a0 t230 t232 _ A43.out).mono ?_); rintro e w' ⟨rfl, ⟨nd, rfl⟩⟩) | (go_at_call 36; (with_reducible refine (numeralref10_small.calls t232 t233 _ A44.out).mono ?_); rintro e w' ⟨rfl, ⟨nd, rfl⟩⟩))
                                go_meet
                                case rel => exact ⟨_, ((t233 == 112)), (by first | rfl | (simp; done) | (simp [*]; done)), H', ⟨by have := HJ2.out; have := HJ13.out; have := HJ15.out; have := HJ31.out; first | omega | exact Nat.le_refl _⟩, ⟨by (with_reducible repeat (first | refine blk_drewN ?_ _ | refine blk_drew ?_ | refine blk_alloc ?_ _)); exact BK218.out⟩, ⟨by (with_reducible repeat (first | refine blk_drewN ?_ _ | refine blk_drew ?_ | refine blk_alloc ?_ _)); exact BK220.out⟩, ⟨by repeat (first | (with_reducible first | exact HB.out | apply below_alloc | apply pw_below_drewN | apply below_drew1 | refine below_set ?_ GE218.out | refine below_set ?_ GE220.out) | exact HB.out)⟩⟩
                              · replace c42 := Bool.eq_false_iff.mpr c42
                                subst c42
                                have H1 : (numeralref10_Prefix.j4 kj31 a0 x6_13 t228 t229 t230 false z_ 0 (⟨#[]⟩ : ByteArray) 0 false 0 0 false) = some (r1, r2, r3, r4, r5, r6, r7, r8, r9, r10) := by rw [if_neg (show ¬ (false = true) by decide)] at H; exact H
                                clear H
                                have H := H1
                                clear H1
                                have H' := Aside0.mk H
                                clear H
                                go_wp2
                                go_meet
                                case rel => exact ⟨_, (false), (by first | rfl | (simp; done) | (simp [*]; done)), H', ⟨by have := HJ2.out; have := HJ13.out; have := HJ15.out; have := HJ31.out; first | omega | exact Nat.le_refl _⟩, ⟨by (with_reducible repeat (first | refine blk_drewN ?_ _ | refine blk_drew ?_ | refine blk_alloc ?_ _)); exact BK218.out⟩, ⟨by (with_reducible repeat (first | refine blk_drewN ?_ _ | refine blk_drew ?_ | refine blk_alloc ?_ _)); exact BK220.out⟩, ⟨by repeat (first | (with_reducible first | exact HB.out | apply below_alloc | apply pw_below_drewN | apply below_drew1 | refine below_set ?_ GE218.out | refine below_set ?_ GE220.out) | exact HB.out)⟩⟩
                            case rest =>
                              clear HC40
                              try clear c1
                              try clear c2
                              try clear p2
                              try clear c3
                              try clear c4
                              try clear c6
                              try clear p6
                              try clear c8
                              try clear c8b0
                              try clear c8b1
                              try clear c9
                              try clear c12
                              try clear c15
                              try clear c17
                              try clear c17b0
                              try clear c17b1
                              try clear c19
                              try clear c20
                              try clear c23
                              try clear c24
                              try clear c26
                              try clear c28
                              try clear c29
                              try clear c34
                              try clear c34b0
                              try clear c34b1
                              try clear c35
                              try clear c37
                              try clear c38
                              try clear c42
                              try clear hcz10_0
                              try clear hcz10_1
                              try clear hcz10_2
                              try clear hcz10_3
                              try clear hcz10_4
                              try clear hcz10_5
                              try clear hcz10_6
                              try clear hcz10_7
                              try clear hcz13_0
                              try clear hcz13_1
                              try clear hcz13_2
                              try clear hcz13_3
                              try clear hcz13_4
                              try clear hcz13_5
                              try clear hcz13_6
                              try clear hcz13_7
                              try clear hcz21_0
                              try clear hcz21_1
                              try clear hcz21_2
                              try clear hcz21_3
                              try clear hcz21_4
                              try clear hcz21_5
                              try clear hcz21_6
                              try clear hcz21_7
                              try clear hcz25_0
                              try clear hcz25_1
                              try clear hcz25_2
                              try clear hcz25_3
                              try clear hcz25_4
                              try clear hcz25_5
                              try clear hcz25_6
                              try clear hcz25_7
                              try clear hcz26_0
                              try clear hcz26_1
                              try clear hcz26_2
                              try clear hcz26_3
                              try clear hcz26_4
                              try clear hcz26_5
                              try clear hcz26_6
                              try clear hcz26_7
                              try clear hcz30_0
                              try clear hcz30_1
                              try clear hcz30_2
                              try clear hcz30_3
                              try clear hcz30_4
                              try clear hcz30_5
                              try clear hcz30_6
                              try clear hcz30_7
                              try clear hcz31_0
                              try clear hcz31_1
                              try clear hcz31_2
                              try clear hcz31_3
                              try clear hcz31_4
                              try clear hcz31_5
                              try clear hcz31_6
                              try clear hcz31_7
                              try clear hcz7_0
                              try clear hcz7_1
                              try clear hcz7_2
                              try clear hcz7_3
                              try clear hcz7_4
                              try clear hcz7_5
                              try clear hcz7_6
                              try clear hcz7_7
                              try clear hfz10_0
                              try clear hfz10_1
                              try clear hfz10_2
                              try clear hfz10_3
                              try clear hfz10_4
                              try clear hfz10_5
                              try clear hfz10_6
                              try clear hfz10_7
                              try clear hfz13_0
                              try clear hfz13_1
                              try clear hfz13_2
                              try clear hfz13_3
                              try clear hfz13_4
                              try clear hfz13_5
                              try clear hfz13_6
                              try clear hfz13_7
                              try clear hfz21_0
                              try clear hfz21_1
                              try clear hfz21_2
                              try clear hfz21_3
                              try clear hfz21_4
                              try clear hfz21_5
                              try clear hfz21_6
                              try clear hfz21_7
                              try clear hfz25_0
                              try clear hfz25_1
                              try clear hfz25_2
                              try clear hfz25_3
                              try clear hfz25_4
                              try clear hfz25_5
                              try clear hfz25_6
                              try clear hfz25_7
                              try clear hfz26_0
                              try clear hfz26_1
                              try clear hfz26_2
                              try clear hfz26_3
                              try clear hfz26_4
                              try clear hfz26_5
                              try clear hfz26_6
                              try clear hfz26_7
                              try clear hfz30_0
                              try clear hfz30_1
                              try clear hfz30_2
                              try clear hfz30_3
                              try clear hfz30_4
                              try clear hfz30_5
                              try clear hfz30_6
                              try clear hfz30_7
                              try clear hfz31_0
                              try clear hfz31_1
                              try clear hfz31_2
                              try clear hfz31_3
                              try clear hfz31_4
                              try clear hfz31_5
                              try clear hfz31_6
                              try clear hfz31_7
                              try clear hfz7_0
                              try clear hfz7_1
                              try clear hfz7_2
                              try clear hfz7_3
                              try clear hfz7_4
                              try clear hfz7_5
                              try clear hfz7_6
                              try clear hfz7_7
                              try clear p2
                              try clear p6
                              obtain ⟨kq, x86_39, rfl, HA, HJ39, BK218, BK220, HB⟩ := hcut
                              cases kq with
                              | zero => exact absurd HA.out (by simp [numeralref10_Prefix.j4])
                              | succ kj39 =>
                                have H := HA.out
                                clear HA
                                simp only [numeralref10_Prefix.j4] at H
                                by_cases c45 : x86_39 = true
                                · subst c45
                                  have H1 : ((numeralref10_exponent.f kj39 a0 (wrap64 (t230 + 1))).bind fun bt234 => (if bt234.2.2 = true then ((numeralref10_hexa.f t228 t229 bt234.1).bind fun bt237 => (some (z_, bt237.2.1, bt237.2.2.1, bt237.2.2.2.1, bt237.2.2.2.2.1, bt237.2.2.2.2.2.1, bt237.2.2.2.2.2.2.1, bt237.2.2.2.2.2.2.2, bt234.2.1, 0))) else (numeralref10_Prefix.j5 kj39 a0 x6_13 z_ 0 (⟨#[]⟩ : ByteArray) 0 false 0 0 false))) = some (r1, r2, r3, r4, r5, r6, r7, r8, r9, r10) := by rw [if_pos rfl] at H; exact H
                                  clear H
                                  have H := H1
                                  clear H1
                                  replace H := Option.bind_eq_some_iff.mp H
                                  obtain ⟨⟨t234, t235, t236⟩, A460, H⟩ := H
                                  replace H : (if t236 = true then ((numeralref10_hexa.f t228 t229 t234).bind fun bt237 => (some (z_, bt237.2.1, bt237.2.2.1, bt237.2.2.2.1, bt237.2.2.2.2.1, bt237.2.2.2.2.2.1, bt237.2.2.2.2.2.2.1, bt237.2.2.2.2.2.2.2, t235, 0))) else (numeralref10_Prefix.j5 kj39 a0 x6_13 z_ 0 (⟨#[]⟩ : ByteArray) 0 false 0 0 false)) = some (r1, r2, r3, r4, r5, r6, r7, r8, r9, r10) := H
                                  have A46 := Aside0.mk A460
                                  clear A460
                                  by_cases c47 : t236 = true
                                  · subst c47
                                    have H1 : ((numeralref10_hexa.f t228 t229 t234).bind fun bt237 => (some (z_, bt237.2.1, bt237.2.2.1, bt237.2.2.2.1, bt237.2.2.2.2.1, bt237.2.2.2.2.2.1, bt237.2.2.2.2.2.2.1, bt237.2.2.2.2.2.2.2, t235, 0))) = some (r1, r2, r3, r4, r5, r6, r7, r8, r9, r10) := by rw [if_pos rfl] at H; exact H
                                    clear H
                                    have H := H1
                                    clear H1
                                    replace H := Option.bind_eq_some_iff.mp H
                                    obtain ⟨⟨t237, t238, t239, t240, t241, t242, t243, t244⟩, A480, H⟩ := H
                                    replace H : (some (z_, t238, t239, t240, t241, t242, t243, t244, t235, 0)) = some (r1, r2, r3, r4, r5, r6, r7, r8, r9, r10) := H
                                    have A48 := Aside0.mk A480
                                    clear A480
                                    simp only [Option.some.injEq, Prod.mk.injEq] at H
                                    obtain ⟨rfl, rfl, rfl, rfl, rfl, rfl, rfl, rfl, rfl, rfl⟩ := H
                                    go_wp2_with (first | ((with_reducible refine gate_callee (f := 38) rfl ?_); refine goesL_ (some 91) rfl rfl Tryd.func38 (by kernel_rfl) rfl #[.string a0, .int .i64 (wrap64 (t230 + 1))] rfl (by (try simp only [List.map_toArray, List.map_cons, List.map_nil]); first | done | rfl | (simp only [List.length_drop, List.length_take]; rfl)) ?_; (with_reducible refine (numeralref10_exponent.calls kj39 a0 (wrap64 (t230 + 1)) t234 t235 true _ A46.out).mono ?_); rintro e w49 ⟨rfl, hb⟩; refine ⟨_, rfl, ?_⟩; have n0_ := Aside0.mk (blk_below (g := gb218) (o := .cells #[.bool false, .int .i64 0, .string (⟨#[]⟩ : ByteArray), .int .i64 0, .bool false, .int .u64 0, .int .i64 0, .bool false] 43 (0, 0)) (by (with_reducible repeat (first | refine blk_drewN ?_ _ | refine blk_drew ?_ | refine blk_alloc ?_ _)); exact BK218.out) hb); have n1_ := Aside0.mk (blk_below (g := gb220) (o := .cells #[.bool z_, .int .i64 0, .string (⟨#[]⟩ : ByteArray), .int .i64 0, .bool false, .int .u64 0, .int .i64 0, .bool false] 43 (0, 0)) (by (with_reducible repeat (first | refine blk_drewN ?_ _ | refine blk_drew ?_ | refine blk_alloc ?_ _)); exact BK220.out) hb); have n2_ := Aside0.mk (below_step (by repeat (first | (with_reducible first | exact HB.out | apply below_alloc | apply pw_below_drewN | apply below_drew1 | refine below_set ?_ GE218.out | refine below_set ?_ GE220.out) | exact HB.out)) hb); clear BK218; clear BK220; clear HB; have BK218 := n0_; have BK220 := n1_; have HB := n2_; clear n0_ n1_ n2_; (try clear hb); (try clear hb2); (try clear hk); (try clear hi)) | ((with_reducible refine gate_callee (f := 39) rfl ?_); refine goesL_ (some 99) rfl rfl Tryd.func39 (by kernel_rfl) rfl #[.string t228, .string t229, .int .i64 t234] rfl (by (try simp only [List.map_toArray, List.map_cons, List.map_nil]); first | done | rfl | (simp only [List.length_drop, List.length_take]; rfl)) ?_; (with_reducible refine (numeralref10_hexa.calls t228 t229 t234 t237 t238 t239 t240 t241 t242 t243 t244 _ A48.out).mono ?_); rintro e w50 ⟨rfl, hb⟩; refine ⟨_, rfl, ?_⟩; have n0_ := Aside0.mk (blk_below (g := gb218) (o := .cells #[.bool false, .int .i64 0, .string (⟨#[]⟩ : ByteArray), .int .i64 0, .bool false, .int .u64 0, .int .i64 0, .bool false] 43 (0, 0)) (by (with_reducible repeat (first | refine blk_drewN ?_ _ | refine blk_drew ?_ | refine blk_alloc ?_ _)); exact BK218.out) hb); have n1_ := Aside0.mk (blk_below (g := gb220) (o := .cells #[.bool z_, .int .i64 0, .string (⟨#[]⟩ : ByteArray), .int .i64 0, .bool false, .int .u64 0, .int .i64 0, .bool false] 43 (0, 0)) (by (with_reducible repeat (first | refine blk_drewN ?_ _ | refine blk_drew ?_ | refine blk_alloc ?_ _)); exact BK220.out) hb); have n2_ := Aside0.mk (below_step (by repeat (first | (with_reducible first | exact HB.out | apply below_alloc | apply pw_below_drewN | apply below_drew1 | refine below_set ?_ GE218.out | refine below_set ?_ GE220.out) | exact HB.out)) hb); clear BK218; clear BK220; clear HB; have BK218 := n0_; have BK220 := n1_; have HB := n2_; clear n0_ n1_ n2_; (try clear hb); (try clear hb2); (try clear hk); (try clear hi)) | ((with_reducible refine gate_dst (N := 14) rfl ?_); refine box_event ?hg (N := 14) ?hd (cs := #[.bool false, .int .i64 0, .string (⟨#[]⟩ : ByteArray), .int .i64 0, .bool false, .int .u64 0, .int .i64 0, .bool false]) (t := 43) ?hr ?_; (case hd => rfl); (case hg => rfl); (case hr => first | (go_simp; done) | (go_simp; rfl)); intro gb245 hg w51 hbox hb; have n0_ := Aside0.mk (blk_below (g := gb218) (o := .cells #[.bool false, .int .i64 0, .string (⟨#[]⟩ : ByteArray), .int .i64 0, .bool false, .int .u64 0, .int .i64 0, .bool false] 43 (0, 0)) (by (with_reducible repeat (first | refine blk_drewN ?_ _ | refine blk_drew ?_ | refine blk_alloc ?_ _)); exact BK218.out) hb); have n1_ := Aside0.mk (blk_below (g := gb220) (o := .cells #[.bool z_, .int .i64 0, .string (⟨#[]⟩ : ByteArray), .int .i64 0, .bool false, .int .u64 0, .int .i64 0, .bool false] 43 (0, 0)) (by (with_reducible repeat (first | refine blk_drewN ?_ _ | refine blk_drew ?_ | refine blk_alloc ?_ _)); exact BK220.out) hb); have n2_ := Aside0.mk (below_step (by repeat (first | (with_reducible first | exact HB.out | apply below_alloc | apply pw_below_drewN | apply below_drew1 | refine below_set ?_ GE218.out | refine below_set ?_ GE220.out) | exact HB.out)) hb); have n3_ := Aside0.mk (hbox); have n4_ := Aside0.mk ((by rw [hg]; exact (below_size (by repeat (first | (with_reducible first | exact HB.out | apply below_alloc | apply pw_below_drewN | apply below_drew1 | refine below_set ?_ GE218.out | refine below_set ?_ GE220.out) | exact HB.out))) : w.heap.size ≤ gb245)); have n5_ := Aside0.mk ((by rw [hg]; exact (below_size (by repeat (first | (with_reducible first | exact HB.out | apply below_alloc | apply pw_below_drewN | apply below_drew1 | refine below_set ?_ GE218.out | refine below_set ?_ GE220.out) | exact HB.out))) : w.heap.size ≤ gb245)); have n6_ := Aside0.mk ((by rw [hg]; exact Nat.ne_of_lt (blk_lt (g := gb218) (o := .cells #[.bool false, .int .i64 0, .string (⟨#[]⟩ : ByteArray), .int .i64 0, .bool false, .int .u64 0, .int .i64 0, .bool false] 43 (0, 0)) (by (with_reducible repeat (first | refine blk_drewN ?_ _ | refine blk_drew ?_ | refine blk_alloc ?_ _)); exact BK218.out)) : gb218 ≠ gb245)); have n7_ := Aside0.mk ((by rw [hg]; exact Nat.ne_of_gt (blk_lt (g := gb218) (o := .cells #[.bool false, .int .i64 0, .string (⟨#[]⟩ : ByteArray), .int .i64 0, .bool false, .int .u64 0, .int .i64 0, .bool false] 43 (0, 0)) (by (with_reducible repeat (first | refine blk_drewN ?_ _ | refine blk_drew ?_ | refine blk_alloc ?_ _)); exact BK218.out)) : gb245 ≠ gb218)); have n8_ := Aside0.mk ((by rw [hg]; exact Nat.ne_of_lt (blk_lt (g := gb220) (o := .cells #[.bool z_, .int .i64 0, .string (⟨#[]⟩ : ByteArray), .int .i64 0, .bool false, .int .u64 0, .int .i64 0, .bool false] 43 (0, 0)) (by (with_reducible repeat (first | refine blk_drewN ?_ _ | refine blk_drew ?_ | refine blk_alloc ?_ _)); exact BK220.out)) : gb220 ≠ gb245)); have n9_ := Aside0.mk ((by rw [hg]; exact Nat.ne_of_gt (blk_lt (g := gb220) (o := .cells #[.bool z_, .int .i64 0, .string (⟨#[]⟩ : ByteArray), .int .i64 0, .bool false, .int .u64 0, .int .i64 0, .bool false] 43 (0, 0)) (by (with_reducible repeat (first | refine blk_drewN ?_ _ | refine blk_drew ?_ | refine blk_alloc ?_ _)); exact BK220.out)) : gb245 ≠ gb220)); clear BK218; clear BK220; clear HB; have BK218 := n0_; have BK220 := n1_; have HB := n2_; have BK245 := n3_; have GW245 := n4_; have GE245 := n5_; have NB218_245 := n6_; have NB245_218 := n7_; have NB220_245 := n8_; have NB245_220 := n9_; clear n0_ n1_ n2_ n3_ n4_ n5_ n6_ n7_ n8_ n9_; clear hb hbox hg; have hnb52 := NB245_218.out; have hnc52 := NB218_245.out; have hnb53 := NB245_220.out; have hnc53 := NB220_245.out; have hcz54_0 : w51.cell? ⟨gb245, 0, none⟩ = some (.bool false) := (blk_cell BK245.out 0).trans rfl; have hcz54_1 : w51.cell? ⟨gb245, 1, none⟩ = some (.int .i64 0) := (blk_cell BK245.out 1).trans rfl; have hcz54_2 : w51.cell? ⟨gb245, 2, none⟩ = some (.string (⟨#[]⟩ : ByteArray)) := (blk_cell BK245.out 2).trans rfl; have hcz54_3 : w51.cell? ⟨gb245, 3, none⟩ = some (.int .i64 0) := (blk_cell BK245.out 3).trans rfl; have hcz54_4 : w51.cell? ⟨gb245, 4, none⟩ = some (.bool false) := (blk_cell BK245.out 4).trans rfl; have hcz54_5 : w51.cell? ⟨gb245, 5, none⟩ = some (.int .u64 0) := (blk_cell BK245.out 5).trans rfl; have hcz54_6 : w51.cell? ⟨gb245, 6, none⟩ = some (.int .i64 0) := (blk_cell BK245.out 6).trans rfl; have hcz54_7 : w51.cell? ⟨gb245, 7, none⟩ = some (.bool false) := (blk_cell BK245.out 7).trans rfl; have hfz54_0 := blk_frozen BK245.out 0; have hfz54_1 := blk_frozen BK245.out 1; have hfz54_2 := blk_frozen BK245.out 2; have hfz54_3 := blk_frozen BK245.out 3; have hfz54_4 := blk_frozen BK245.out 4; have hfz54_5 := blk_frozen BK245.out 5; have hfz54_6 := blk_frozen BK245.out 6; have hfz54_7 := blk_frozen BK245.out 7; have hnb55 := NB220_218.out; have hnc55 := NB218_220.out; have hcz56_0 : w51.cell? ⟨gb220, 0, none⟩ = some (.bool z_) := (blk_cell BK220.out 0).trans rfl; have hcz56_1 : w51.cell? ⟨gb220, 1, none⟩ = some (.int .i64 0) := (blk_cell BK220.out 1).trans rfl; have hcz56_2 : w51.cell? ⟨gb220, 2, none⟩ = some (.string (⟨#[]⟩ : ByteArray)) := (blk_cell BK220.out 2).trans rfl; have hcz56_3 : w51.cell? ⟨gb220, 3, none⟩ = some (.int .i64 0) := (blk_cell BK220.out 3).trans rfl; have hcz56_4 : w51.cell? ⟨gb220, 4, none⟩ = some (.bool false) := (blk_cell BK220.out 4).trans rfl; have hcz56_5 : w51.cell? ⟨gb220, 5, none⟩ = some (.int .u64 0) := (blk_cell BK220.out 5).trans rfl; have hcz56_6 : w51.cell? ⟨gb220, 6, none⟩ = some (.int .i64 0) := (blk_cell BK220.out 6).trans rfl; have hcz56_7 : w51.cell? ⟨gb220, 7, none⟩ = some (.bool false) := (blk_cell BK220.out 7).trans rfl; have hfz56_0 := blk_frozen BK220.out 0; have hfz56_1 := blk_frozen BK220.out 1; have hfz56_2 := blk_frozen BK220.out 2; have hfz56_3 := blk_frozen BK220.out 3; have hfz56_4 := blk_frozen BK220.out 4; have hfz56_5 := blk_frozen BK220.out 5; have hfz56_6 := blk_frozen BK220.out 6; have hfz56_7 := blk_frozen BK220.out 7; have hcz57_0 : w51.cell? ⟨gb218, 0, none⟩ = some (.bool false) := (blk_cell BK218.out 0).trans rfl; have hcz57_1 : w51.cell? ⟨gb218, 1, none⟩ = some (.int .i64 0) := (blk_cell BK218.out 1).trans rfl; have hcz57_2 : w51.cell? ⟨gb218, 2, none⟩ = some (.string (⟨#[]⟩ : ByteArray)) := (blk_cell BK218.out 2).trans rfl; have hcz57_3 : w51.cell? ⟨gb218, 3, none⟩ = some (.int .i64 0) := (blk_cell BK218.out 3).trans rfl; have hcz57_4 : w51.cell? ⟨gb218, 4, none⟩ = some (.bool false) := (blk_cell BK218.out 4).trans rfl; have hcz57_5 : w51.cell? ⟨gb218, 5, none⟩ = some (.int .u64 0) := (blk_cell BK218.out 5).trans rfl; have hcz57_6 : w51.cell? ⟨gb218, 6, none⟩ = some (.int .i64 0) := (blk_cell BK218.out 6).trans rfl; have hcz57_7 : w51.cell? ⟨gb218, 7, none⟩ = some (.bool false) := (blk_cell BK218.out 7).trans rfl; have hfz57_0 := blk_frozen BK218.out 0; have hfz57_1 := blk_frozen BK218.out 1; have hfz57_2 := blk_frozen BK218.out 2; have hfz57_3 := blk_frozen BK218.out 3; have hfz57_4 := blk_frozen BK218.out 4; have hfz57_5 := blk_frozen BK218.out 5; have hfz57_6 := blk_frozen BK218.out 6; have hfz57_7 := blk_frozen BK218.out 7))
                                    refine bodyPost_ret (results_ctt rfl _ _ gb218 43 #[.bool z_, .int .i64 t238, .string t239, .int .i64 t240, .bool t241, .int .u64 t242, .int .i64 t243, .bool t244] (0, 0) _ rfl (by (with_reducible repeat (first | refine blk_drewN ?_ _ | refine blk_drew ?_ | refine blk_alloc ?_ _)); refine blk_put (cs := #[.bool z_, .int .i64 t238, .string t239, .int .i64 t240, .bool t241, .int .u64 t242, .int .i64 t243, .bool false]) ?_ 7 _ rfl; (with_reducible repeat (first | refine blk_drewN ?_ _ | refine blk_drew ?_ | refine blk_alloc ?_ _)); refine blk_put (cs := #[.bool z_, .int .i64 t238, .string t239, .int .i64 t240, .bool t241, .int .u64 t242, .int .i64 0, .bool false]) ?_ 6 _ rfl; (with_reducible repeat (first | refine blk_drewN ?_ _ | refine blk_drew ?_ | refine blk_alloc ?_ _)); refine blk_put (cs := #[.bool z_, .int .i64 t238, .string t239, .int .i64 t240, .bool t241, .int .u64 0, .int .i64 0, .bool false]) ?_ 5 _ rfl; (with_reducible repeat (first | refine blk_drewN ?_ _ | refine blk_drew ?_ | refine blk_alloc ?_ _)); refine blk_put (cs := #[.bool z_, .int .i64 t238, .string t239, .int .i64 t240, .bool false, .int .u64 0, .int .i64 0, .bool false]) ?_ 4 _ rfl; (with_reducible repeat (first | refine blk_drewN ?_ _ | refine blk_drew ?_ | refine blk_alloc ?_ _)); refine blk_put (cs := #[.bool z_, .int .i64 t238, .string t239, .int .i64 0, .bool false, .int .u64 0, .int .i64 0, .bool false]) ?_ 3 _ rfl; (with_reducible repeat (first | refine blk_drewN ?_ _ | refine blk_drew ?_ | refine blk_alloc ?_ _)); refine blk_put (cs := #[.bool z_, .int .i64 t238, .string (⟨#[]⟩ : ByteArray), .int .i64 0, .bool false, .int .u64 0, .int .i64 0, .bool false]) ?_ 2 _ rfl; (with_reducible repeat (first | refine blk_drewN ?_ _ | refine blk_drew ?_ | refine blk_alloc ?_ _)); refine blk_put (cs := #[.bool z_, .int .i64 0, .string (⟨#[]⟩ : ByteArray), .int .i64 0, .bool false, .int .u64 0, .int .i64 0, .bool false]) ?_ 1 _ rfl; (with_reducible repeat (first | refine blk_drewN ?_ _ | refine blk_drew ?_ | refine blk_alloc ?_ _)); refine blk_put (cs := #[.bool false, .int .i64 0, .string (⟨#[]⟩ : ByteArray), .int .i64 0, .bool false, .int .u64 0, .int .i64 0, .bool false]) ?_ 0 _ rfl; (with_reducible repeat (first | refine blk_drewN ?_ _ | refine blk_drew ?_ | refine blk_alloc ?_ _)); refine blk_far ?_ NB218_245.out _; (with_reducible repeat (first | refine blk_drewN ?_ _ | refine blk_drew ?_ | refine blk_alloc ?_ _)); refine blk_far ?_ NB218_245.out _; (with_reducible repeat (first | refine blk_drewN ?_ _ | refine blk_drew ?_ | refine blk_alloc ?_ _)); refine blk_far ?_ NB218_245.out _; (with_reducible repeat (first | refine blk_drewN ?_ _ | refine blk_drew ?_ | refine blk_alloc ?_ _)); refine blk_far ?_ NB218_245.out _; (with_reducible repeat (first | refine blk_drewN ?_ _ | refine blk_drew ?_ | refine blk_alloc ?_ _)); refine blk_far ?_ NB218_245.out _; (with_reducible repeat (first | refine blk_drewN ?_ _ | refine blk_drew ?_ | refine blk_alloc ?_ _)); refine blk_far ?_ NB218_245.out _; (with_reducible repeat (first | refine blk_drewN ?_ _ | refine blk_drew ?_ | refine blk_alloc ?_ _)); refine blk_far ?_ NB218_245.out _; (with_reducible repeat (first | refine blk_drewN ?_ _ | refine blk_drew ?_ | refine blk_alloc ?_ _)); refine blk_far ?_ NB218_245.out _; (with_reducible repeat (first | refine blk_drewN ?_ _ | refine blk_drew ?_ | refine blk_alloc ?_ _)); refine blk_far ?_ NB218_245.out _; (with_reducible repeat (first | refine blk_drewN ?_ _ | refine blk_drew ?_ | refine blk_alloc ?_ _)); exact BK218.out) Tryd.underlying43 rfl (by kernel_rfl)) rfl ?_
                                    exact ⟨by first | rfl | (simp [errW_none, errW_some] <;> rfl) | (simp [*, errW_none, errW_some] <;> rfl), by repeat (first | (with_reducible first | exact HB.out | apply below_alloc | apply pw_below_drewN | apply below_drew1 | refine below_set ?_ GE218.out | refine below_set ?_ GE220.out | refine below_set ?_ GE245.out) | exact HB.out)⟩
                                  · replace c47 := Bool.eq_false_iff.mpr c47
                                    subst c47
                                    have H1 : (numeralref10_Prefix.j5 kj39 a0 x6_13 z_ 0 (⟨#[]⟩ : ByteArray) 0 false 0 0 false) = some (r1, r2, r3, r4, r5, r6, r7, r8, r9, r10) := by rw [if_neg (show ¬ (false = true) by decide)] at H; exact H
                                    clear H
                                    have H := H1
                                    clear H1
                                    have H' := Aside0.mk H
                                    clear H
                                    go_wp2_with (first | ((with_reducible refine gate_callee (f := 38) rfl ?_); refine goesL_ (some 91) rfl rfl Tryd.func38 (by kernel_rfl) rfl #[.string a0, .int .i64 (wrap64 (t230 + 1))] rfl (by (try simp only [List.map_toArray, List.map_cons, List.map_nil]); first | done | rfl | (simp only [List.length_drop, List.length_take]; rfl)) ?_; (with_reducible refine (numeralref10_exponent.calls kj39 a0 (wrap64 (t230 + 1)) t234 t235 false _ A46.out).mono ?_); rintro e w58 ⟨rfl, hb⟩; refine ⟨_, rfl, ?_⟩; have n0_ := Aside0.mk (blk_below (g := gb218) (o := .cells #[.bool false, .int .i64 0, .string (⟨#[]⟩ : ByteArray), .int .i64 0, .bool false, .int .u64 0, .int .i64 0, .bool false] 43 (0, 0)) (by (with_reducible repeat (first | refine blk_drewN ?_ _ | refine blk_drew ?_ | refine blk_alloc ?_ _)); exact BK218.out) hb); have n1_ := Aside0.mk (blk_below (g := gb220) (o := .cells #[.bool z_, .int .i64 0, .string (⟨#[]⟩ : ByteArray), .int .i64 0, .bool false, .int .u64 0, .int .i64 0, .bool false] 43 (0, 0)) (by (with_reducible repeat (first | refine blk_drewN ?_ _ | refine blk_drew ?_ | refine blk_alloc ?_ _)); exact BK220.out) hb); have n2_ := Aside0.mk (below_step (by repeat (first | (with_reducible first | exact HB.out | apply below_alloc | apply pw_below_drewN | apply below_drew1 | refine below_set ?_ GE218.out | refine below_set ?_ GE220.out) | exact HB.out)) hb); clear BK218; clear BK220; clear HB; have BK218 := n0_; have BK220 := n1_; have HB := n2_; clear n0_ n1_ n2_; (try clear hb); (try clear hb2); (try clear hk); (try clear hi)))
                                    go_meet
                                    case rel => exact ⟨_, (false), (0), ((⟨#[]⟩ : ByteArray)), (0), (false), (0), (0), (false), H', ⟨by have := HJ2.out; have := HJ13.out; have := HJ15.out; have := HJ31.out; have := HJ39.out; first | omega | exact Nat.le_refl _⟩, ⟨by (with_reducible repeat (first | refine blk_drewN ?_ _ | refine blk_drew ?_ | refine blk_alloc ?_ _)); exact BK218.out⟩, ⟨by (with_reducible repeat (first | refine blk_drewN ?_ _ | refine blk_drew ?_ | refine blk_alloc ?_ _)); exact BK220.out⟩, ⟨by repeat (first | (with_reducible first | exact HB.out | apply below_alloc | apply pw_below_drewN | apply below_drew1 | refine below_set ?_ GE218.out | refine below_set ?_ GE220.out) | exact HB.out)⟩⟩
                                · replace c45 := Bool.eq_false_iff.mpr c45
                                  subst c45
                                  have H1 : (numeralref10_Prefix.j5 kj39 a0 x6_13 z_ 0 (⟨#[]⟩ : ByteArray) 0 false 0 0 false) = some (r1, r2, r3, r4, r5, r6, r7, r8, r9, r10) := by rw [if_neg (show ¬ (false = true) by decide)] at H; exact H
                                  clear H
                                  have H := H1
                                  clear H1
                                  have H' := Aside0.mk H
                                  clear H
                                  go_wp2
                                  go_meet
                                  case rel => exact ⟨_, (false), (0), ((⟨#[]⟩ : ByteArray)), (0), (false), (0), (0), (false), H', ⟨by have := HJ2.out; have := HJ13.out; have := HJ15.out; have := HJ31.out; have := HJ39.out; first | omega | exact Nat.le_refl _⟩, ⟨by (with_reducible repeat (first | refine blk_drewN ?_ _ | refine blk_drew ?_ | refine blk_alloc ?_ _)); exact BK218.out⟩, ⟨by (with_reducible repeat (first | refine blk_drewN ?_ _ | refine blk_drew ?_ | refine blk_alloc ?_ _)); exact BK220.out⟩, ⟨by repeat (first | (with_reducible first | exact HB.out | apply below_alloc | apply pw_below_drewN | apply below_drew1 | refine below_set ?_ GE218.out | refine below_set ?_ GE220.out) | exact HB.out)⟩⟩
                          · replace c38 := Bool.eq_false_iff.mpr c38
                            subst c38
                            have H1 : (numeralref10_Prefix.j5 kj31 a0 x6_13 z_ 0 (⟨#[]⟩ : ByteArray) 0 false 0 0 false) = some (r1, r2, r3, r4, r5, r6, r7, r8, r9, r10) := by rw [if_neg (show ¬ (false = true) by decide)] at H; exact H
                            clear H
                            have H := H1
                            clear H1
                            have H' := Aside0.mk H
                            clear H
                            go_wp2
                            go_meet
                            case rel => exact ⟨_, (false), (0), ((⟨#[]⟩ : ByteArray)), (0), (false), (0), (0), (false), H', ⟨by have := HJ2.out; have := HJ13.out; have := HJ15.out; have := HJ31.out; first | omega | exact Nat.le_refl _⟩, ⟨by (with_reducible repeat (first | refine blk_drewN ?_ _ | refine blk_drew ?_ | refine blk_alloc ?_ _)); exact BK218.out⟩, ⟨by (with_reducible repeat (first | refine blk_drewN ?_ _ | refine blk_drew ?_ | refine blk_alloc ?_ _)); exact BK220.out⟩, ⟨by repeat (first | (with_reducible first | exact HB.out | apply below_alloc | apply pw_below_drewN | apply below_drew1 | refine below_set ?_ GE218.out | refine below_set ?_ GE220.out) | exact HB.out)⟩⟩
                        case rest =>
                          clear HC37
                          try clear c1
                          try clear c2
                          try clear p2
                          try clear c3
                          try clear c4
                          try clear c5
                          try clear c6
                          try clear p6
                          try clear c8
                          try clear c8b0
                          try clear c8b1
                          try clear c9
                          try clear c12
                          try clear c15
                          try clear c17
                          try clear c17b0
                          try clear c17b1
                          try clear c19
                          try clear c20
                          try clear c23
                          try clear c24
                          try clear c26
                          try clear c28
                          try clear c29
                          try clear c34
                          try clear c34b0
                          try clear c34b1
                          try clear c35
                          try clear c37
                          try clear c38
                          try clear c39
                          try clear c42
                          try clear c45
                          try clear c47
                          try clear c52
                          try clear c53
                          try clear c55
                          try clear hcz10_0
                          try clear hcz10_1
                          try clear hcz10_2
                          try clear hcz10_3
                          try clear hcz10_4
                          try clear hcz10_5
                          try clear hcz10_6
                          try clear hcz10_7
                          try clear hcz13_0
                          try clear hcz13_1
                          try clear hcz13_2
                          try clear hcz13_3
                          try clear hcz13_4
                          try clear hcz13_5
                          try clear hcz13_6
                          try clear hcz13_7
                          try clear hcz21_0
                          try clear hcz21_1
                          try clear hcz21_2
                          try clear hcz21_3
                          try clear hcz21_4
                          try clear hcz21_5
                          try clear hcz21_6
                          try clear hcz21_7
                          try clear hcz25_0
                          try clear hcz25_1
                          try clear hcz25_2
                          try clear hcz25_3
                          try clear hcz25_4
                          try clear hcz25_5
                          try clear hcz25_6
                          try clear hcz25_7
                          try clear hcz26_0
                          try clear hcz26_1
                          try clear hcz26_2
                          try clear hcz26_3
                          try clear hcz26_4
                          try clear hcz26_5
                          try clear hcz26_6
                          try clear hcz26_7
                          try clear hcz30_0
                          try clear hcz30_1
                          try clear hcz30_2
                          try clear hcz30_3
                          try clear hcz30_4
                          try clear hcz30_5
                          try clear hcz30_6
                          try clear hcz30_7
                          try clear hcz31_0
                          try clear hcz31_1
                          try clear hcz31_2
                          try clear hcz31_3
                          try clear hcz31_4
                          try clear hcz31_5
                          try clear hcz31_6
                          try clear hcz31_7
                          try clear hcz54_0
                          try clear hcz54_1
                          try clear hcz54_2
                          try clear hcz54_3
                          try clear hcz54_4
                          try clear hcz54_5
                          try clear hcz54_6
                          try clear hcz54_7
                          try clear hcz56_0
                          try clear hcz56_1
                          try clear hcz56_2
                          try clear hcz56_3
                          try clear hcz56_4
                          try clear hcz56_5
                          try clear hcz56_6
                          try clear hcz56_7
                          try clear hcz57_0
                          try clear hcz57_1
                          try clear hcz57_2
                          try clear hcz57_3
                          try clear hcz57_4
                          try clear hcz57_5
                          try clear hcz57_6
                          try clear hcz57_7
                          try clear hcz7_0
                          try clear hcz7_1
                          try clear hcz7_2
                          try clear hcz7_3
                          try clear hcz7_4
                          try clear hcz7_5
                          try clear hcz7_6
                          try clear hcz7_7
                          try clear hfz10_0
                          try clear hfz10_1
                          try clear hfz10_2
                          try clear hfz10_3
                          try clear hfz10_4
                          try clear hfz10_5
                          try clear hfz10_6
                          try clear hfz10_7
                          try clear hfz13_0
                          try clear hfz13_1
                          try clear hfz13_2
                          try clear hfz13_3
                          try clear hfz13_4
                          try clear hfz13_5
                          try clear hfz13_6
                          try clear hfz13_7
                          try clear hfz21_0
                          try clear hfz21_1
                          try clear hfz21_2
                          try clear hfz21_3
                          try clear hfz21_4
                          try clear hfz21_5
                          try clear hfz21_6
                          try clear hfz21_7
                          try clear hfz25_0
                          try clear hfz25_1
                          try clear hfz25_2
                          try clear hfz25_3
                          try clear hfz25_4
                          try clear hfz25_5
                          try clear hfz25_6
                          try clear hfz25_7
                          try clear hfz26_0
                          try clear hfz26_1
                          try clear hfz26_2
                          try clear hfz26_3
                          try clear hfz26_4
                          try clear hfz26_5
                          try clear hfz26_6
                          try clear hfz26_7
                          try clear hfz30_0
                          try clear hfz30_1
                          try clear hfz30_2
                          try clear hfz30_3
                          try clear hfz30_4
                          try clear hfz30_5
                          try clear hfz30_6
                          try clear hfz30_7
                          try clear hfz31_0
                          try clear hfz31_1
                          try clear hfz31_2
                          try clear hfz31_3
                          try clear hfz31_4
                          try clear hfz31_5
                          try clear hfz31_6
                          try clear hfz31_7
                          try clear hfz54_0
                          try clear hfz54_1
                          try clear hfz54_2
                          try clear hfz54_3
                          try clear hfz54_4
                          try clear hfz54_5
                          try clear hfz54_6
                          try clear hfz54_7
                          try clear hfz56_0
                          try clear hfz56_1
                          try clear hfz56_2
                          try clear hfz56_3
                          try clear hfz56_4
                          try clear hfz56_5
                          try clear hfz56_6
                          try clear hfz56_7
                          try clear hfz57_0
                          try clear hfz57_1
                          try clear hfz57_2
                          try clear hfz57_3
                          try clear hfz57_4
                          try clear hfz57_5
                          try clear hfz57_6
                          try clear hfz57_7
                          try clear hfz7_0
                          try clear hfz7_1
                          try clear hfz7_2
                          try clear hfz7_3
                          try clear hfz7_4
                          try clear hfz7_5
                          try clear hfz7_6
                          try clear hfz7_7
                          try clear p2
                          try clear p6
                          obtain ⟨kq, x219000_36, x219001_36, x219002_36, x219003_36, x219004_36, x219005_36, x219006_36, x219007_36, HA, HJ36, BK218, BK220, HB⟩ := hcut
                          cases kq with
                          | zero => exact absurd HA.out (by simp [numeralref10_Prefix.j5])
                          | succ kj36 =>
                            have H := HA.out
                            clear HA
                            simp only [numeralref10_Prefix.j5] at H
                            replace H := Option.bind_eq_some_iff.mp H
                            obtain ⟨⟨t246, t247, t248, t249⟩, A590, H⟩ := H
                            replace H : (if t249 = true then ((numeralref10_at.f a0 t248).bind fun t250 => ((numeralref10_small.f t250).bind fun t251 => (if t251 = 101 then ((numeralref10_exponent.f kj36 a0 (wrap64 (t248 + 1))).bind fun bt252 => (if bt252.2.2 = true then ((numeralref10_Dec.f kj36 t246 t247 bt252.1).bind fun bt255 => (some (z_, 1, bt255.1, bt255.2.1, bt255.2.2, 0, 0, false, bt252.2.1, 0))) else ((numeralref10_Dec.f kj36 t246 t247 0).bind fun bt258 => (some (z_, 1, bt258.1, bt258.2.1, bt258.2.2, 0, 0, false, t248, 0))))) else ((numeralref10_Dec.f kj36 t246 t247 0).bind fun bt261 => (some (z_, 1, bt261.1, bt261.2.1, bt261.2.2, 0, 0, false, t248, 0)))))) else (some (false, 0, (⟨#[]⟩ : ByteArray), 0, false, 0, 0, false, 0, 3))) = some (r1, r2, r3, r4, r5, r6, r7, r8, r9, r10) := H
                            have A59 := Aside0.mk A590
                            clear A590
                            by_cases c60 : t249 = true
                            · subst c60
                              have H1 : ((numeralref10_at.f a0 t248).bind fun t250 => ((numeralref10_small.f t250).bind fun t251 => (if t251 = 101 then ((numeralref10_exponent.f kj36 a0 (wrap64 (t248 + 1))).bind fun bt252 => (if bt252.2.2 = true then ((numeralref10_Dec.f kj36 t246 t247 bt252.1).bind fun bt255 => (some (z_, 1, bt255.1, bt255.2.1, bt255.2.2, 0, 0, false, bt252.2.1, 0))) else ((numeralref10_Dec.f kj36 t246 t247 0).bind fun bt258 => (some (z_, 1, bt258.1, bt258.2.1, bt258.2.2, 0, 0, false, t248, 0))))) else ((numeralref10_Dec.f kj36 t246 t247 0).bind fun bt261 => (some (z_, 1, bt261.1, bt261.2.1, bt261.2.2, 0, 0, false, t248, 0)))))) = some (r1, r2, r3, r4, r5, r6, r7, r8, r9, r10) := by rw [if_pos rfl] at H; exact H
                              clear H
                              have H := H1
                              clear H1
                              replace H := Option.bind_eq_some_iff.mp H
                              obtain ⟨t250, A610, H⟩ := H
                              replace H : ((numeralref10_small.f t250).bind fun t251 => (if t251 = 101 then ((numeralref10_exponent.f kj36 a0 (wrap64 (t248 + 1))).bind fun bt252 => (if bt252.2.2 = true then ((numeralref10_Dec.f kj36 t246 t247 bt252.1).bind fun bt255 => (some (z_, 1, bt255.1, bt255.2.1, bt255.2.2, 0, 0, false, bt252.2.1, 0))) else ((numeralref10_Dec.f kj36 t246 t247 0).bind fun bt258 => (some (z_, 1, bt258.1, bt258.2.1, bt258.2.2, 0, 0, false, t248, 0))))) else ((numeralref10_Dec.f kj36 t246 t247 0).bind fun bt261 => (some (z_, 1, bt261.1, bt261.2.1, bt261.2.2, 0, 0, false, t248, 0))))) = some (r1, r2, r3, r4, r5, r6, r7, r8, r9, r10) := H
                              have A61 := Aside0.mk A610
                              clear A610
                              replace H := Option.bind_eq_some_iff.mp H
                              obtain ⟨t251, A620, H⟩ := H
                              replace H : (if t251 = 101 then ((numeralref10_exponent.f kj36 a0 (wrap64 (t248 + 1))).bind fun bt252 => (if bt252.2.2 = true then ((numeralref10_Dec.f kj36 t246 t247 bt252.1).bind fun bt255 => (some (z_, 1, bt255.1, bt255.2.1, bt255.2.2, 0, 0, false, bt252.2.1, 0))) else ((numeralref10_Dec.f kj36 t246 t247 0).bind fun bt258 => (some (z_, 1, bt258.1, bt258.2.1, bt258.2.2, 0, 0, false, t248, 0))))) else ((numeralref10_Dec.f kj36 t246 t247 0).bind fun bt261 => (some (z_, 1, bt261.1, bt261.2.1, bt261.2.2, 0, 0, false, t248, 0)))) = some (r1, r2, r3, r4, r5, r6, r7, r8, r9, r10) := H
                              have A62 := Aside0.mk A620
                              clear A620
                              by_cases c63 : t251 = 101
                              · rw [if_pos c63] at H
                                have c63b0 : (t251 == 101) = true := beq_iff_eq.mpr c63
                                have c63b1 : (t251 != 101) = false := bne_eq_false_iff_eq.mpr c63
                                clear c63
                                replace H := Option.bind_eq_some_iff.mp H
                                obtain ⟨⟨t252, t253, t254⟩, A640, H⟩ := H
                                replace H : (if t254 = true then ((numeralref10_Dec.f kj36 t246 t247 t252).bind fun bt255 => (some (z_, 1, bt255.1, bt255.2.1, bt255.2.2, 0, 0, false, t253, 0))) else ((numeralref10_Dec.f kj36 t246 t247 0).bind fun bt258 => (some (z_, 1, bt258.1, bt258.2.1, bt258.2.2, 0, 0, false, t248, 0)))) = some (r1, r2, r3, r4, r5, r6, r7, r8, r9, r10) := H
                                have A64 := Aside0.mk A640
                                clear A640
                                by_cases c65 : t254 = true
                                · subst c65
                                  have H1 : ((numeralref10_Dec.f kj36 t246 t247 t252).bind fun bt255 => (some (z_, 1, bt255.1, bt255.2.1, bt255.2.2, 0, 0, false, t253, 0))) = some (r1, r2, r3, r4, r5, r6, r7, r8, r9, r10) := by rw [if_pos rfl] at H; exact H
                                  clear H
                                  have H := H1
                                  clear H1
                                  replace H := Option.bind_eq_some_iff.mp H
                                  obtain ⟨⟨t255, t256, t257⟩, A660, H⟩ := H
                                  replace H : (some (z_, 1, t255, t256, t257, 0, 0, false, t253, 0)) = some (r1, r2, r3, r4, r5, r6, r7, r8, r9, r10) := H
                                  have A66 := Aside0.mk A660
                                  clear A660
                                  simp only [Option.some.injEq, Prod.mk.injEq] at H
                                  obtain ⟨rfl, rfl, rfl, rfl, rfl, rfl, rfl, rfl, rfl, rfl⟩ := H
                                  go_wp2_with (first | ((with_reducible refine gate_callee (f := 37) rfl ?_); refine goesL_ (some 108) rfl rfl Tryd.func37 (by kernel_rfl) rfl #[.string a0, .int .i64 x6_13, .bool false] rfl (by (try simp only [List.map_toArray, List.map_cons, List.map_nil]); first | done | rfl | (simp only [List.length_drop, List.length_take]; rfl)) ?_; (with_reducible refine (numeralref10_mantissa.calls kj36 a0 x6_13 false t246 t247 t248 true _ A59.out).mono ?_); rintro e w67 ⟨rfl, hb⟩; refine ⟨_, rfl, ?_⟩; have n0_ := Aside0.mk (blk_below (g := gb218) (o := .cells #[.bool x219000_36, .int .i64 x219001_36, .string x219002_36, .int .i64 x219003_36, .bool x219004_36, .int .u64 x219005_36, .int .i64 x219006_36, .bool x219007_36] 43 (0, 0)) (by (with_reducible repeat (first | refine blk_drewN ?_ _ | refine blk_drew ?_ | refine blk_alloc ?_ _)); exact BK218.out) hb); have n1_ := Aside0.mk (blk_below (g := gb220) (o := .cells #[.bool z_, .int .i64 0, .string (⟨#[]⟩ : ByteArray), .int .i64 0, .bool false, .int .u64 0, .int .i64 0, .bool false] 43 (0, 0)) (by (with_reducible repeat (first | refine blk_drewN ?_ _ | refine blk_drew ?_ | refine blk_alloc ?_ _)); exact BK220.out) hb); have n2_ := Aside0.mk (below_step (by repeat (first | (with_reducible first | exact HB.out | apply below_alloc | apply pw_below_drewN | apply below_drew1 | refine below_set ?_ GE218.out | refine below_set ?_ GE220.out) | exact HB.out)) hb); clear BK218; clear BK220; clear HB; have BK218 := n0_; have BK220 := n1_; have HB := n2_; clear n0_ n1_ n2_; (try clear hb); (try clear hb2); (try clear hk); (try clear hi)) | ((with_reducible refine gate_callee (f := 34) rfl ?_); refine goesL_ (some 118) rfl rfl Tryd.func34 (by kernel_rfl) rfl #[.string a0, .int .i64 t248] rfl (by (try simp only [List.map_toArray, List.map_cons, List.map_nil]); first | done | rfl | (simp only [List.length_drop, List.length_take]; rfl)) ?_; (with_reducible refine (numeralref10_at.calls a0 t248 t250 _ A61.out).mono ?_); rintro e w' ⟨rfl, ⟨nd, rfl⟩⟩; refine ⟨_, rfl, ?_⟩; (try (rw [drewN_self w67]; generalize hq_ : World.drewN w67 _ = w67; have n0_ : Aside0 (w67.heap[gb218]? = some (.cells #[.bool x219000_36, .int .i64 x219001_36, .string x219002_36, .int .i64 x219003_36, .bool x219004_36, .int .u64 x219005_36, .int .i64 x219006_36, .bool x219007_36] 43 (0, 0))) := ⟨by rw [← hq_]; exact (by (with_reducible repeat (first | refine blk_drewN ?_ _ | refine blk_drew ?_ | refine blk_alloc ?_ _)); exact BK218.out)⟩; have n1_ : Aside0 (w67.heap[gb220]? = some (.cells #[.bool z_, .int .i64 0, .string (⟨#[]⟩ : ByteArray), .int .i64 0, .bool false, .int .u64 0, .int .i64 0, .bool false] 43 (0, 0))) := ⟨by rw [← hq_]; exact (by (with_reducible repeat (first | refine blk_drewN ?_ _ | refine blk_drew ?_ | refine blk_alloc ?_ _)); exact BK220.out)⟩; have n2_ : Aside0 (Below w.heap.size w w67) := ⟨by rw [← hq_]; exact (by repeat (first | (with_reducible first | exact HB.out | apply below_alloc | apply pw_below_drewN | apply below_drew1 | refine below_set ?_ GE218.out | refine below_set ?_ GE220.out) | exact HB.out))⟩; clear BK218 BK220 HB hq_; have BK218 := n0_; have BK220 := n1_; have HB := n2_; clear n0_ n1_ n2_))) | ((with_reducible refine gate_callee (f := 36) rfl ?_); refine goesL_ (some 119) rfl rfl Tryd.func36 (by kernel_rfl) rfl #[.int .u8 t250] rfl (by (try simp only [List.map_toArray, List.map_cons, List.map_nil]); first | done | rfl | (simp only [List.length_drop, List.length_take]; rfl)) ?_; (with_reducible refine (numeralref10_small.calls t250 t251 _ A62.out).mono ?_); rintro e w' ⟨rfl, ⟨nd, rfl⟩⟩; refine ⟨_, rfl, ?_⟩; (try (rw [drewN_self w67]; generalize hq_ : World.drewN w67 _ = w67; have n0_ : Aside0 (w67.heap[gb218]? = some (.cells #[.bool x219000_36, .int .i64 x219001_36, .string x219002_36, .int .i64 x219003_36, .bool x219004_36, .int .u64 x219005_36, .int .i64 x219006_36, .bool x219007_36] 43 (0, 0))) := ⟨by rw [← hq_]; exact (by (with_reducible repeat (first | refine blk_drewN ?_ _ | refine blk_drew ?_ | refine blk_alloc ?_ _)); exact BK218.out)⟩; have n1_ : Aside0 (w67.heap[gb220]? = some (.cells #[.bool z_, .int .i64 0, .string (⟨#[]⟩ : ByteArray), .int .i64 0, .bool false, .int .u64 0, .int .i64 0, .bool false] 43 (0, 0))) := ⟨by rw [← hq_]; exact (by (with_reducible repeat (first | refine blk_drewN ?_ _ | refine blk_drew ?_ | refine blk_alloc ?_ _)); exact BK220.out)⟩; have n2_ : Aside0 (Below w.heap.size w w67) := ⟨by rw [← hq_]; exact (by repeat (first | (with_reducible first | exact HB.out | apply below_alloc | apply pw_below_drewN | apply below_drew1 | refine below_set ?_ GE218.out | refine below_set ?_ GE220.out) | exact HB.out))⟩; clear BK218 BK220 HB hq_; have BK218 := n0_; have BK220 := n1_; have HB := n2_; clear n0_ n1_ n2_))) | ((with_reducible refine gate_callee (f := 38) rfl ?_); refine goesL_ (some 125) rfl rfl Tryd.func38 (by kernel_rfl) rfl #[.string a0, .int .i64 (wrap64 (t248 + 1))] rfl (by (try simp only [List.map_toArray, List.map_cons, List.map_nil]); first | done | rfl | (simp only [List.length_drop, List.length_take]; rfl)) ?_; (with_reducible refine (numeralref10_exponent.calls kj36 a0 (wrap64 (t248 + 1)) t252 t253 true _ A64.out).mono ?_); rintro e w68 ⟨rfl, hb⟩; refine ⟨_, rfl, ?_⟩; have n0_ := Aside0.mk (blk_below (g := gb218) (o := .cells #[.bool x219000_36, .int .i64 x219001_36, .string x219002_36, .int .i64 x219003_36, .bool x219004_36, .int .u64 x219005_36, .int .i64 x219006_36, .bool x219007_36] 43 (0, 0)) (by (with_reducible repeat (first | refine blk_drewN ?_ _ | refine blk_drew ?_ | refine blk_alloc ?_ _)); exact BK218.out) hb); have n1_ := Aside0.mk (blk_below (g := gb220) (o := .cells #[.bool z_, .int .i64 0, .string (⟨#[]⟩ : ByteArray), .int .i64 0, .bool false, .int .u64 0, .int .i64 0, .bool false] 43 (0, 0)) (by (with_reducible repeat (first | refine blk_drewN ?_ _ | refine blk_drew ?_ | refine blk_alloc ?_ _)); exact BK220.out) hb); have n2_ := Aside0.mk (below_step (by repeat (first | (with_reducible first | exact HB.out | apply below_alloc | apply pw_below_drewN | apply below_drew1 | refine below_set ?_ GE218.out | refine below_set ?_ GE220.out) | exact HB.out)) hb); clear BK218; clear BK220; clear HB; have BK218 := n0_; have BK220 := n1_; have HB := n2_; clear n0_ n1_ n2_; (try clear hb); (try clear hb2); (try clear hk); (try clear hi); have hnb69 := NB220_218.out; have hnc69 := NB218_220.out; have hcz70_0 : w68.cell? ⟨gb220, 0, none⟩ = some (.bool z_) := (blk_cell BK220.out 0).trans rfl; have hcz70_1 : w68.cell? ⟨gb220, 1, none⟩ = some (.int .i64 0) := (blk_cell BK220.out 1).trans rfl; have hcz70_2 : w68.cell? ⟨gb220, 2, none⟩ = some (.string (⟨#[]⟩ : ByteArray)) := (blk_cell BK220.out 2).trans rfl; have hcz70_3 : w68.cell? ⟨gb220, 3, none⟩ = some (.int .i64 0) := (blk_cell BK220.out 3).trans rfl; have hcz70_4 : w68.cell? ⟨gb220, 4, none⟩ = some (.bool false) := (blk_cell BK220.out 4).trans rfl; have hcz70_5 : w68.cell? ⟨gb220, 5, none⟩ = some (.int .u64 0) := (blk_cell BK220.out 5).trans rfl; have hcz70_6 : w68.cell? ⟨gb220, 6, none⟩ = some (.int .i64 0) := (blk_cell BK220.out 6).trans rfl; have hcz70_7 : w68.cell? ⟨gb220, 7, none⟩ = some (.bool false) := (blk_cell BK220.out 7).trans rfl; have hfz70_0 := blk_frozen BK220.out 0; have hfz70_1 := blk_frozen BK220.out 1; have hfz70_2 := blk_frozen BK220.out 2; have hfz70_3 := blk_frozen BK220.out 3; have hfz70_4 := blk_frozen BK220.out 4; have hfz70_5 := blk_frozen BK220.out 5; have hfz70_6 := blk_frozen BK220.out 6; have hfz70_7 := blk_frozen BK220.out 7) | ((with_reducible refine gate_callee (f := 40) rfl ?_); refine goesL_ (some 136) rfl rfl Tryd.func40 (by kernel_rfl) rfl #[.string t246, .string t247, .int .i64 t252] rfl (by (try simp only [List.map_toArray, List.map_cons, List.map_nil]); first | done | rfl | (simp only [List.length_drop, List.length_take]; rfl)) ?_; (with_reducible refine (numeralref10_Dec.calls kj36 t246 t247 t252 t255 t256 t257 _ A66.out).mono ?_); rintro e w71 ⟨rfl, hb⟩; refine ⟨_, rfl, ?_⟩; have n0_ := Aside0.mk (blk_below (g := gb218) (o := .cells #[.bool x219000_36, .int .i64 x219001_36, .string x219002_36, .int .i64 x219003_36, .bool x219004_36, .int .u64 x219005_36, .int .i64 x219006_36, .bool x219007_36] 43 (0, 0)) (by (with_reducible repeat (first | refine blk_drewN ?_ _ | refine blk_drew ?_ | refine blk_alloc ?_ _)); refine blk_far ?_ NB218_220.out _; (with_reducible repeat (first | refine blk_drewN ?_ _ | refine blk_drew ?_ | refine blk_alloc ?_ _)); exact BK218.out) hb); have n1_ := Aside0.mk (blk_below (g := gb220) (o := .cells #[.bool z_, .int .i64 1, .string (⟨#[]⟩ : ByteArray), .int .i64 0, .bool false, .int .u64 0, .int .i64 0, .bool false] 43 (0, 0)) (by (with_reducible repeat (first | refine blk_drewN ?_ _ | refine blk_drew ?_ | refine blk_alloc ?_ _)); refine blk_put (cs := #[.bool z_, .int .i64 0, .string (⟨#[]⟩ : ByteArray), .int .i64 0, .bool false, .int .u64 0, .int .i64 0, .bool false]) ?_ 1 _ rfl; (with_reducible repeat (first | refine blk_drewN ?_ _ | refine blk_drew ?_ | refine blk_alloc ?_ _)); exact BK220.out) hb); have n2_ := Aside0.mk (below_step (by repeat (first | (with_reducible first | exact HB.out | apply below_alloc | apply pw_below_drewN | apply below_drew1 | refine below_set ?_ GE218.out | refine below_set ?_ GE220.out) | exact HB.out)) hb); clear BK218; clear BK220; clear HB; have BK218 := n0_; have BK220 := n1_; have HB := n2_; clear n0_ n1_ n2_; (try clear hb); (try clear hb2); (try clear hk); (try clear hi); have hcz72_0 : w71.cell? ⟨gb220, 0, none⟩ = some (.bool z_) := (blk_cell BK220.out 0).trans rfl; have hcz72_1 : w71.cell? ⟨gb220, 1, none⟩ = some (.int .i64 1) := (blk_cell BK220.out 1).trans rfl; have hcz72_2 : w71.cell? ⟨gb220, 2, none⟩ = some (.string (⟨#[]⟩ : ByteArray)) := (blk_cell BK220.out 2).trans rfl; have hcz72_3 : w71.cell? ⟨gb220, 3, none⟩ = some (.int .i64 0) := (blk_cell BK220.out 3).trans rfl; have hcz72_4 : w71.cell? ⟨gb220, 4, none⟩ = some (.bool false) := (blk_cell BK220.out 4).trans rfl; have hcz72_5 : w71.cell? ⟨gb220, 5, none⟩ = some (.int .u64 0) := (blk_cell BK220.out 5).trans rfl; have hcz72_6 : w71.cell? ⟨gb220, 6, none⟩ = some (.int .i64 0) := (blk_cell BK220.out 6).trans rfl; have hcz72_7 : w71.cell? ⟨gb220, 7, none⟩ = some (.bool false) := (blk_cell BK220.out 7).trans rfl; have hfz72_0 := blk_frozen BK220.out 0; have hfz72_1 := blk_frozen BK220.out 1; have hfz72_2 := blk_frozen BK220.out 2; have hfz72_3 := blk_frozen BK220.out 3; have hfz72_4 := blk_frozen BK220.out 4; have hfz72_5 := blk_frozen BK220.out 5; have hfz72_6 := blk_frozen BK220.out 6; have hfz72_7 := blk_frozen BK220.out 7; have hcz73_0 : w71.cell? ⟨gb218, 0, none⟩ = some (.bool x219000_36) := (blk_cell BK218.out 0).trans rfl; have hcz73_1 : w71.cell? ⟨gb218, 1, none⟩ = some (.int .i64 x219001_36) := (blk_cell BK218.out 1).trans rfl; have hcz73_2 : w71.cell? ⟨gb218, 2, none⟩ = some (.string x219002_36) := (blk_cell BK218.out 2).trans rfl; have hcz73_3 : w71.cell? ⟨gb218, 3, none⟩ = some (.int .i64 x219003_36) := (blk_cell BK218.out 3).trans rfl; have hcz73_4 : w71.cell? ⟨gb218, 4, none⟩ = some (.bool x219004_36) := (blk_cell BK218.out 4).trans rfl; have hcz73_5 : w71.cell? ⟨gb218, 5, none⟩ = some (.int .u64 x219005_36) := (blk_cell BK218.out 5).trans rfl; have hcz73_6 : w71.cell? ⟨gb218, 6, none⟩ = some (.int .i64 x219006_36) := (blk_cell BK218.out 6).trans rfl; have hcz73_7 : w71.cell? ⟨gb218, 7, none⟩ = some (.bool x219007_36) := (blk_cell BK218.out 7).trans rfl; have hfz73_0 := blk_frozen BK218.out 0; have hfz73_1 := blk_frozen BK218.out 1; have hfz73_2 := blk_frozen BK218.out 2; have hfz73_3 := blk_frozen BK218.out 3; have hfz73_4 := blk_frozen BK218.out 4; have hfz73_5 := blk_frozen BK218.out 5; have hfz73_6 := blk_frozen BK218.out 6; have hfz73_7 := blk_frozen BK218.out 7))
                                  refine bodyPost_ret (results_ctt rfl _ _ gb218 43 #[.bool z_, .int .i64 1, .string t255, .int .i64 t256, .bool t257, .int .u64 0, .int .i64 0, .bool false] (0, 0) _ rfl (by (with_reducible repeat (first | refine blk_drewN ?_ _ | refine blk_drew ?_ | refine blk_alloc ?_ _)); refine blk_put (cs := #[.bool z_, .int .i64 1, .string t255, .int .i64 t256, .bool t257, .int .u64 0, .int .i64 0, .bool x219007_36]) ?_ 7 _ rfl; (with_reducible repeat (first | refine blk_drewN ?_ _ | refine blk_drew ?_ | refine blk_alloc ?_ _)); refine blk_put (cs := #[.bool z_, .int .i64 1, .string t255, .int .i64 t256, .bool t257, .int .u64 0, .int .i64 x219006_36, .bool x219007_36]) ?_ 6 _ rfl; (with_reducible repeat (first | refine blk_drewN ?_ _ | refine blk_drew ?_ | refine blk_alloc ?_ _)); refine blk_put (cs := #[.bool z_, .int .i64 1, .string t255, .int .i64 t256, .bool t257, .int .u64 x219005_36, .int .i64 x219006_36, .bool x219007_36]) ?_ 5 _ rfl; (with_reducible repeat (first | refine blk_drewN ?_ _ | refine blk_drew ?_ | refine blk_alloc ?_ _)); refine blk_put (cs := #[.bool z_, .int .i64 1, .string t255, .int .i64 t256, .bool x219004_36, .int .u64 x219005_36, .int .i64 x219006_36, .bool x219007_36]) ?_ 4 _ rfl; (with_reducible repeat (first | refine blk_drewN ?_ _ | refine blk_drew ?_ | refine blk_alloc ?_ _)); refine blk_put (cs := #[.bool z_, .int .i64 1, .string t255, .int .i64 x219003_36, .bool x219004_36, .int .u64 x219005_36, .int .i64 x219006_36, .bool x219007_36]) ?_ 3 _ rfl; (with_reducible repeat (first | refine blk_drewN ?_ _ | refine blk_drew ?_ | refine blk_alloc ?_ _)); refine blk_put (cs := #[.bool z_, .int .i64 1, .string x219002_36, .int .i64 x219003_36, .bool x219004_36, .int .u64 x219005_36, .int .i64 x219006_36, .bool x219007_36]) ?_ 2 _ rfl; (with_reducible repeat (first | refine blk_drewN ?_ _ | refine blk_drew ?_ | refine blk_alloc ?_ _)); refine blk_put (cs := #[.bool z_, .int .i64 x219001_36, .string x219002_36, .int .i64 x219003_36, .bool x219004_36, .int .u64 x219005_36, .int .i64 x219006_36, .bool x219007_36]) ?_ 1 _ rfl; (with_reducible repeat (first | refine blk_drewN ?_ _ | refine blk_drew ?_ | refine blk_alloc ?_ _)); refine blk_put (cs := #[.bool x219000_36, .int .i64 x219001_36, .string x219002_36, .int .i64 x219003_36, .bool x219004_36, .int .u64 x219005_36, .int .i64 x219006_36, .bool x219007_36]) ?_ 0 _ rfl; (with_reducible repeat (first | refine blk_drewN ?_ _ | refine blk_drew ?_ | refine blk_alloc ?_ _)); refine blk_far ?_ NB218_220.out _; (with_reducible repeat (first | refine blk_drewN ?_ _ | refine blk_drew ?_ | refine blk_alloc ?_ _)); refine blk_far ?_ NB218_220.out _; (with_reducible repeat (first | refine blk_drewN ?_ _ | refine blk_drew ?_ | refine blk_alloc ?_ _)); refine blk_far ?_ NB218_220.out _; (with_reducible repeat (first | refine blk_drewN ?_ _ | refine blk_drew ?_ | refine blk_alloc ?_ _)); exact BK218.out) Tryd.underlying43 rfl (by kernel_rfl)) rfl ?_
                                  exact ⟨by first | rfl | (simp [errW_none, errW_some] <;> rfl) | (simp [*, errW_none, errW_some] <;> rfl), by repeat (first | (with_reducible first | exact HB.out | apply below_alloc | apply pw_below_drewN | apply below_drew1 | refine below_set ?_ GE218.out | refine below_set ?_ GE220.out) | exact HB.out)⟩
                                · replace c65 := Bool.eq_false_iff.mpr c65
                                  subst c65
                                  have H1 : ((numeralref10_Dec.f kj36 t246 t247 0).bind fun bt258 => (some (z_, 1, bt258.1, bt258.2.1, bt258.2.2, 0, 0, false, t248, 0))) = some (r1, r2, r3, r4, r5, r6, r7, r8, r9, r10) := by rw [if_neg (show ¬ (false = true) by decide)] at H; exact H
                                  clear H
                                  have H := H1
                                  clear H1
                                  replace H := Option.bind_eq_some_iff.mp H
                                  obtain ⟨⟨t258, t259, t260⟩, A740, H⟩ := H
                                  replace H : (some (z_, 1, t258, t259, t260, 0, 0, false, t248, 0)) = some (r1, r2, r3, r4, r5, r6, r7, r8, r9, r10) := H
                                  have A74 := Aside0.mk A740
                                  clear A740
                                  simp only [Option.some.injEq, Prod.mk.injEq] at H
                                  obtain ⟨rfl, rfl, rfl, rfl, rfl, rfl, rfl, rfl, rfl, rfl⟩ := H
                                  go_wp2_with (first | ((with_reducible refine gate_callee (f := 37) rfl ?_); refine goesL_ (some 108) rfl rfl Tryd.func37 (by kernel_rfl) rfl #[.string a0, .int .i64 x6_13, .bool false] rfl (by (try simp only [List.map_toArray, List.map_cons, List.map_nil]); first | done | rfl | (simp only [List.length_drop, List.length_take]; rfl)) ?_; (with_reducible refine (numeralref10_mantissa.calls kj36 a0 x6_13 false t246 t247 t248 true _ A59.out).mono ?_); rintro e w75 ⟨rfl, hb⟩; refine ⟨_, rfl, ?_⟩; have n0_ := Aside0.mk (blk_below (g := gb218) (o := .cells #[.bool x219000_36, .int .i64 x219001_36, .string x219002_36, .int .i64 x219003_36, .bool x219004_36, .int .u64 x219005_36, .int .i64 x219006_36, .bool x219007_36] 43 (0, 0)) (by (with_reducible repeat (first | refine blk_drewN ?_ _ | refine blk_drew ?_ | refine blk_alloc ?_ _)); exact BK218.out) hb); have n1_ := Aside0.mk (blk_below (g := gb220) (o := .cells #[.bool z_, .int .i64 0, .string (⟨#[]⟩ : ByteArray), .int .i64 0, .bool false, .int .u64 0, .int .i64 0, .bool false] 43 (0, 0)) (by (with_reducible repeat (first | refine blk_drewN ?_ _ | refine blk_drew ?_ | refine blk_alloc ?_ _)); exact BK220.out) hb); have n2_ := Aside0.mk (below_step (by repeat (first | (with_reducible first | exact HB.out | apply below_alloc | apply pw_below_drewN | apply below_drew1 | refine below_set ?_ GE218.out | refine below_set ?_ GE220.out) | exact HB.out)) hb); clear BK218; clear BK220; clear HB; have BK218 := n0_; have BK220 := n1_; have HB := n2_; clear n0_ n1_ n2_; (try clear hb); (try clear hb2); (try clear hk); (try clear hi)) | ((with_reducible refine gate_callee (f := 34) rfl ?_); refine goesL_ (some 118) rfl rfl Tryd.func34 (by kernel_rfl) rfl #[.string a0, .int .i64 t248] rfl (by (try simp only [List.map_toArray, List.map_cons, List.map_nil]); first | done | rfl | (simp only [List.length_drop, List.length_take]; rfl)) ?_; (with_reducible refine (numeralref10_at.calls a0 t248 t250 _ A61.out).mono ?_); rintro e w' ⟨rfl, ⟨nd, rfl⟩⟩; refine ⟨_, rfl, ?_⟩; (try (rw [drewN_self w75]; generalize hq_ : World.drewN w75 _ = w75; have n0_ : Aside0 (w75.heap[gb218]? = some (.cells #[.bool x219000_36, .int .i64 x219001_36, .string x219002_36, .int .i64 x219003_36, .bool x219004_36, .int .u64 x219005_36, .int .i64 x219006_36, .bool x219007_36] 43 (0, 0))) := ⟨by rw [← hq_]; exact (by (with_reducible repeat (first | refine blk_drewN ?_ _ | refine blk_drew ?_ | refine blk_alloc ?_ _)); exact BK218.out)⟩; have n1_ : Aside0 (w75.heap[gb220]? = some (.cells #[.bool z_, .int .i64 0, .string (⟨#[]⟩ : ByteArray), .int .i64 0, .bool false, .int .u64 0, .int .i64 0, .bool false] 43 (0, 0))) := ⟨by rw [← hq_]; exact (by (with_reducible repeat (first | refine blk_drewN ?_ _ | refine blk_drew ?_ | refine blk_alloc ?_ _)); exact BK220.out)⟩; have n2_ : Aside0 (Below w.heap.size w w75) := ⟨by rw [← hq_]; exact (by repeat (first | (with_reducible first | exact HB.out | apply below_alloc | apply pw_below_drewN | apply below_drew1 | refine below_set ?_ GE218.out | refine below_set ?_ GE220.out) | exact HB.out))⟩; clear BK218 BK220 HB hq_; have BK218 := n0_; have BK220 := n1_; have HB := n2_; clear n0_ n1_ n2_))) | ((with_reducible refine gate_callee (f := 36) rfl ?_); refine goesL_ (some 119) rfl rfl Tryd.func36 (by kernel_rfl) rfl #[.int .u8 t250] rfl (by (try simp only [List.map_toArray, List.map_cons, List.map_nil]); first | done | rfl | (simp only [List.length_drop, List.length_take]; rfl)) ?_; (with_reducible refine (numeralref10_small.calls t250 t251 _ A62.out).mono ?_); rintro e w' ⟨rfl, ⟨nd, rfl⟩⟩; refine ⟨_, rfl, ?_⟩; (try (rw [drewN_self w75]; generalize hq_ : World.drewN w75 _ = w75; have n0_ : Aside0 (w75.heap[gb218]? = some (.cells #[.bool x219000_36, .int .i64 x219001_36, .string x219002_36, .int .i64 x219003_36, .bool x219004_36, .int .u64 x219005_36, .int .i64 x219006_36, .bool x219007_36] 43 (0, 0))) := ⟨by rw [← hq_]; exact (by (with_reducible repeat (first | refine blk_drewN ?_ _ | refine blk_drew ?_ | refine blk_alloc ?_ _)); exact BK218.out)⟩; have n1_ : Aside0 (w75.heap[gb220]? = some (.cells #[.bool z_, .int .i64 0, .string (⟨#[]⟩ : ByteArray), .int .i64 0, .bool false, .int .u64 0, .int .i64 0, .bool false] 43 (0, 0))) := ⟨by rw [← hq_]; exact (by (with_reducible repeat (first | refine blk_drewN ?_ _ | refine blk_drew ?_ | refine blk_alloc ?_ _)); exact BK220.out)⟩; have n2_ : Aside0 (Below w.heap.size w w75) := ⟨by rw [← hq_]; exact (by repeat (first | (with_reducible first | exact HB.out | apply below_alloc | apply pw_below_drewN | apply below_drew1 | refine below_set ?_ GE218.out | refine below_set ?_ GE220.out) | exact HB.out))⟩; clear BK218 BK220 HB hq_; have BK218 := n0_; have BK220 := n1_; have HB := n2_; clear n0_ n1_ n2_))) | ((with_reducible refine gate_callee (f := 38) rfl ?_); refine goesL_ (some 125) rfl rfl Tryd.func38 (by kernel_rfl) rfl #[.string a0, .int .i64 (wrap64 (t248 + 1))] rfl (by (try simp only [List.map_toArray, List.map_cons, List.map_nil]); first | done | rfl | (simp only [List.length_drop, List.length_take]; rfl)) ?_; (with_reducible refine (numeralref10_exponent.calls kj36 a0 (wrap64 (t248 + 1)) t252 t253 false _ A64.out).mono ?_); rintro e w76 ⟨rfl, hb⟩; refine ⟨_, rfl, ?_⟩; have n0_ := Aside0.mk (blk_below (g := gb218) (o := .cells #[.bool x219000_36, .int .i64 x219001_36, .string x219002_36, .int .i64 x219003_36, .bool x219004_36, .int .u64 x219005_36, .int .i64 x219006_36, .bool x219007_36] 43 (0, 0)) (by (with_reducible repeat (first | refine blk_drewN ?_ _ | refine blk_drew ?_ | refine blk_alloc ?_ _)); exact BK218.out) hb); have n1_ := Aside0.mk (blk_below (g := gb220) (o := .cells #[.bool z_, .int .i64 0, .string (⟨#[]⟩ : ByteArray), .int .i64 0, .bool false, .int .u64 0, .int .i64 0, .bool false] 43 (0, 0)) (by (with_reducible repeat (first | refine blk_drewN ?_ _ | refine blk_drew ?_ | refine blk_alloc ?_ _)); exact BK220.out) hb); have n2_ := Aside0.mk (below_step (by repeat (first | (with_reducible first | exact HB.out | apply below_alloc | apply pw_below_drewN | apply below_drew1 | refine below_set ?_ GE218.out | refine below_set ?_ GE220.out) | exact HB.out)) hb); clear BK218; clear BK220; clear HB; have BK218 := n0_; have BK220 := n1_; have HB := n2_; clear n0_ n1_ n2_; (try clear hb); (try clear hb2); (try clear hk); (try clear hi); have hnb77 := NB220_218.out; have hnc77 := NB218_220.out; have hcz78_0 : w76.cell? ⟨gb220, 0, none⟩ = some (.bool z_) := (blk_cell BK220.out 0).trans rfl; have hcz78_1 : w76.cell? ⟨gb220, 1, none⟩ = some (.int .i64 0) := (blk_cell BK220.out 1).trans rfl; have hcz78_2 : w76.cell? ⟨gb220, 2, none⟩ = some (.string (⟨#[]⟩ : ByteArray)) := (blk_cell BK220.out 2).trans rfl; have hcz78_3 : w76.cell? ⟨gb220, 3, none⟩ = some (.int .i64 0) := (blk_cell BK220.out 3).trans rfl; have hcz78_4 : w76.cell? ⟨gb220, 4, none⟩ = some (.bool false) := (blk_cell BK220.out 4).trans rfl; have hcz78_5 : w76.cell? ⟨gb220, 5, none⟩ = some (.int .u64 0) := (blk_cell BK220.out 5).trans rfl; have hcz78_6 : w76.cell? ⟨gb220, 6, none⟩ = some (.int .i64 0) := (blk_cell BK220.out 6).trans rfl; have hcz78_7 : w76.cell? ⟨gb220, 7, none⟩ = some (.bool false) := (blk_cell BK220.out 7).trans rfl; have hfz78_0 := blk_frozen BK220.out 0; have hfz78_1 := blk_frozen BK220.out 1; have hfz78_2 := blk_frozen BK220.out 2; have hfz78_3 := blk_frozen BK220.out 3; have hfz78_4 := blk_frozen BK220.out 4; have hfz78_5 := blk_frozen BK220.out 5; have hfz78_6 := blk_frozen BK220.out 6; have hfz78_7 := blk_frozen BK220.out 7) | ((with_reducible refine gate_callee (f := 40) rfl ?_); refine goesL_ (some 136) rfl rfl Tryd.func40 (by kernel_rfl) rfl #[.string t246, .string t247, .int .i64 0] rfl (by (try simp only [List.map_toArray, List.map_cons, List.map_nil]); first | done | rfl | (simp only [List.length_drop, List.length_take]; rfl)) ?_; (with_reducible refine (numeralref10_Dec.calls kj36 t246 t247 0 t258 t259 t260 _ A74.out).mono ?_); rintro e w79 ⟨rfl, hb⟩; refine ⟨_, rfl, ?_⟩; have n0_ := Aside0.mk (blk_below (g := gb218) (o := .cells #[.bool x219000_36, .int .i64 x219001_36, .string x219002_36, .int .i64 x219003_36, .bool x219004_36, .int .u64 x219005_36, .int .i64 x219006_36, .bool x219007_36] 43 (0, 0)) (by (with_reducible repeat (first | refine blk_drewN ?_ _ | refine blk_drew ?_ | refine blk_alloc ?_ _)); refine blk_far ?_ NB218_220.out _; (with_reducible repeat (first | refine blk_drewN ?_ _ | refine blk_drew ?_ | refine blk_alloc ?_ _)); exact BK218.out) hb); have n1_ := Aside0.mk (blk_below (g := gb220) (o := .cells #[.bool z_, .int .i64 1, .string (⟨#[]⟩ : ByteArray), .int .i64 0, .bool false, .int .u64 0, .int .i64 0, .bool false] 43 (0, 0)) (by (with_reducible repeat (first | refine blk_drewN ?_ _ | refine blk_drew ?_ | refine blk_alloc ?_ _)); refine blk_put (cs := #[.bool z_, .int .i64 0, .string (⟨#[]⟩ : ByteArray), .int .i64 0, .bool false, .int .u64 0, .int .i64 0, .bool false]) ?_ 1 _ rfl; (with_reducible repeat (first | refine blk_drewN ?_ _ | refine blk_drew ?_ | refine blk_alloc ?_ _)); exact BK220.out) hb); have n2_ := Aside0.mk (below_step (by repeat (first | (with_reducible first | exact HB.out | apply below_alloc | apply pw_below_drewN | apply below_drew1 | refine below_set ?_ GE218.out | refine below_set ?_ GE220.out) | exact HB.out)) hb); clear BK218; clear BK220; clear HB; have BK218 := n0_; have BK220 := n1_; have HB := n2_; clear n0_ n1_ n2_; (try clear hb); (try clear hb2); (try clear hk); (try clear hi); have hcz80_0 : w79.cell? ⟨gb220, 0, none⟩ = some (.bool z_) := (blk_cell BK220.out 0).trans rfl; have hcz80_1 : w79.cell? ⟨gb220, 1, none⟩ = some (.int .i64 1) := (blk_cell BK220.out 1).trans rfl; have hcz80_2 : w79.cell? ⟨gb220, 2, none⟩ = some (.string (⟨#[]⟩ : ByteArray)) := (blk_cell BK220.out 2).trans rfl; have hcz80_3 : w79.cell? ⟨gb220, 3, none⟩ = some (.int .i64 0) := (blk_cell BK220.out 3).trans rfl; have hcz80_4 : w79.cell? ⟨gb220, 4, none⟩ = some (.bool false) := (blk_cell BK220.out 4).trans rfl; have hcz80_5 : w79.cell? ⟨gb220, 5, none⟩ = some (.int .u64 0) := (blk_cell BK220.out 5).trans rfl; have hcz80_6 : w79.cell? ⟨gb220, 6, none⟩ = some (.int .i64 0) := (blk_cell BK220.out 6).trans rfl; have hcz80_7 : w79.cell? ⟨gb220, 7, none⟩ = some (.bool false) := (blk_cell BK220.out 7).trans rfl; have hfz80_0 := blk_frozen BK220.out 0; have hfz80_1 := blk_frozen BK220.out 1; have hfz80_2 := blk_frozen BK220.out 2; have hfz80_3 := blk_frozen BK220.out 3; have hfz80_4 := blk_frozen BK220.out 4; have hfz80_5 := blk_frozen BK220.out 5; have hfz80_6 := blk_frozen BK220.out 6; have hfz80_7 := blk_frozen BK220.out 7; have hcz81_0 : w79.cell? ⟨gb218, 0, none⟩ = some (.bool x219000_36) := (blk_cell BK218.out 0).trans rfl; have hcz81_1 : w79.cell? ⟨gb218, 1, none⟩ = some (.int .i64 x219001_36) := (blk_cell BK218.out 1).trans rfl; have hcz81_2 : w79.cell? ⟨gb218, 2, none⟩ = some (.string x219002_36) := (blk_cell BK218.out 2).trans rfl; have hcz81_3 : w79.cell? ⟨gb218, 3, none⟩ = some (.int .i64 x219003_36) := (blk_cell BK218.out 3).trans rfl; have hcz81_4 : w79.cell? ⟨gb218, 4, none⟩ = some (.bool x219004_36) := (blk_cell BK218.out 4).trans rfl; have hcz81_5 : w79.cell? ⟨gb218, 5, none⟩ = some (.int .u64 x219005_36) := (blk_cell BK218.out 5).trans rfl; have hcz81_6 : w79.cell? ⟨gb218, 6, none⟩ = some (.int .i64 x219006_36) := (blk_cell BK218.out 6).trans rfl; have hcz81_7 : w79.cell? ⟨gb218, 7, none⟩ = some (.bool x219007_36) := (blk_cell BK218.out 7).trans rfl; have hfz81_0 := blk_frozen BK218.out 0; have hfz81_1 := blk_frozen BK218.out 1; have hfz81_2 := blk_frozen BK218.out 2; have hfz81_3 := blk_frozen BK218.out 3; have hfz81_4 := blk_frozen BK218.out 4; have hfz81_5 := blk_frozen BK218.out 5; have hfz81_6 := blk_frozen BK218.out 6; have hfz81_7 := blk_frozen BK218.out 7))
                                  refine bodyPost_ret (results_ctt rfl _ _ gb218 43 #[.bool z_, .int .i64 1, .string t258, .int .i64 t259, .bool t260, .int .u64 0, .int .i64 0, .bool false] (0, 0) _ rfl (by (with_reducible repeat (first | refine blk_drewN ?_ _ | refine blk_drew ?_ | refine blk_alloc ?_ _)); refine blk_put (cs := #[.bool z_, .int .i64 1, .string t258, .int .i64 t259, .bool t260, .int .u64 0, .int .i64 0, .bool x219007_36]) ?_ 7 _ rfl; (with_reducible repeat (first | refine blk_drewN ?_ _ | refine blk_drew ?_ | refine blk_alloc ?_ _)); refine blk_put (cs := #[.bool z_, .int .i64 1, .string t258, .int .i64 t259, .bool t260, .int .u64 0, .int .i64 x219006_36, .bool x219007_36]) ?_ 6 _ rfl; (with_reducible repeat (first | refine blk_drewN ?_ _ | refine blk_drew ?_ | refine blk_alloc ?_ _)); refine blk_put (cs := #[.bool z_, .int .i64 1, .string t258, .int .i64 t259, .bool t260, .int .u64 x219005_36, .int .i64 x219006_36, .bool x219007_36]) ?_ 5 _ rfl; (with_reducible repeat (first | refine blk_drewN ?_ _ | refine blk_drew ?_ | refine blk_alloc ?_ _)); refine blk_put (cs := #[.bool z_, .int .i64 1, .string t258, .int .i64 t259, .bool x219004_36, .int .u64 x219005_36, .int .i64 x219006_36, .bool x219007_36]) ?_ 4 _ rfl; (with_reducible repeat (first | refine blk_drewN ?_ _ | refine blk_drew ?_ | refine blk_alloc ?_ _)); refine blk_put (cs := #[.bool z_, .int .i64 1, .string t258, .int .i64 x219003_36, .bool x219004_36, .int .u64 x219005_36, .int .i64 x219006_36, .bool x219007_36]) ?_ 3 _ rfl; (with_reducible repeat (first | refine blk_drewN ?_ _ | refine blk_drew ?_ | refine blk_alloc ?_ _)); refine blk_put (cs := #[.bool z_, .int .i64 1, .string x219002_36, .int .i64 x219003_36, .bool x219004_36, .int .u64 x219005_36, .int .i64 x219006_36, .bool x219007_36]) ?_ 2 _ rfl; (with_reducible repeat (first | refine blk_drewN ?_ _ | refine blk_drew ?_ | refine blk_alloc ?_ _)); refine blk_put (cs := #[.bool z_, .int .i64 x219001_36, .string x219002_36, .int .i64 x219003_36, .bool x219004_36, .int .u64 x219005_36, .int .i64 x219006_36, .bool x219007_36]) ?_ 1 _ rfl; (with_reducible repeat (first | refine blk_drewN ?_ _ | refine blk_drew ?_ | refine blk_alloc ?_ _)); refine blk_put (cs := #[.bool x219000_36, .int .i64 x219001_36, .string x219002_36, .int .i64 x219003_36, .bool x219004_36, .int .u64 x219005_36, .int .i64 x219006_36, .bool x219007_36]) ?_ 0 _ rfl; (with_reducible repeat (first | refine blk_drewN ?_ _ | refine blk_drew ?_ | refine blk_alloc ?_ _)); refine blk_far ?_ NB218_220.out _; (with_reducible repeat (first | refine blk_drewN ?_ _ | refine blk_drew ?_ | refine blk_alloc ?_ _)); refine blk_far ?_ NB218_220.out _; (with_reducible repeat (first | refine blk_drewN ?_ _ | refine blk_drew ?_ | refine blk_alloc ?_ _)); refine blk_far ?_ NB218_220.out _; (with_reducible repeat (first | refine blk_drewN ?_ _ | refine blk_drew ?_ | refine blk_alloc ?_ _)); exact BK218.out) Tryd.underlying43 rfl (by kernel_rfl)) rfl ?_
                                  exact ⟨by first | rfl | (simp [errW_none, errW_some] <;> rfl) | (simp [*, errW_none, errW_some] <;> rfl), by repeat (first | (with_reducible first | exact HB.out | apply below_alloc | apply pw_below_drewN | apply below_drew1 | refine below_set ?_ GE218.out | refine below_set ?_ GE220.out) | exact HB.out)⟩
                              · rw [if_neg c63] at H
                                have c63b0 : (t251 == 101) = false := beq_eq_false_iff_ne.mpr c63
                                have c63b1 : (t251 != 101) = true := bne_iff_ne.mpr c63
                                replace H := Option.bind_eq_some_iff.mp H
                                obtain ⟨⟨t261, t262, t263⟩, A820, H⟩ := H
                                replace H : (some (z_, 1, t261, t262, t263, 0, 0, false, t248, 0)) = some (r1, r2, r3, r4, r5, r6, r7, r8, r9, r10) := H
                                have A82 := Aside0.mk A820
                                clear A820
                                simp only [Option.some.injEq, Prod.mk.injEq] at H
                                obtain ⟨rfl, rfl, rfl, rfl, rfl, rfl, rfl, rfl, rfl, rfl⟩ := H
                                go_wp2_with (first | ((with_reducible refine gate_callee (f := 37) rfl ?_); refine goesL_ (some 108) rfl rfl Tryd.func37 (by kernel_rfl) rfl #[.string a0, .int .i64 x6_13, .bool false] rfl (by (try simp only [List.map_toArray, List.map_cons, List.map_nil]); first | done | rfl | (simp only [List.length_drop, List.length_take]; rfl)) ?_; (with_reducible refine (numeralref10_mantissa.calls kj36 a0 x6_13 false t246 t247 t248 true _ A59.out).mono ?_); rintro e w83 ⟨rfl, hb⟩; refine ⟨_, rfl, ?_⟩; have n0_ := Aside0.mk (blk_below (g := gb218) (o := .cells #[.bool x219000_36, .int .i64 x219001_36, .string x219002_36, .int .i64 x219003_36, .bool x219004_36, .int .u64 x219005_36, .int .i64 x219006_36, .bool x219007_36] 43 (0, 0)) (by (with_reducible repeat (first | refine blk_drewN ?_ _ | refine blk_drew ?_ | refine blk_alloc ?_ _)); exact BK218.out) hb); have n1_ := Aside0.mk (blk_below (g := gb220) (o := .cells #[.bool z_, .int .i64 0, .string (⟨#[]⟩ : ByteArray), .int .i64 0, .bool false, .int .u64 0, .int .i64 0, .bool false] 43 (0, 0)) (by (with_reducible repeat (first | refine blk_drewN ?_ _ | refine blk_drew ?_ | refine blk_alloc ?_ _)); exact BK220.out) hb); have n2_ := Aside0.mk (below_step (by repeat (first | (with_reducible first | exact HB.out | apply below_alloc | apply pw_below_drewN | apply below_drew1 | refine below_set ?_ GE218.out | refine below_set ?_ GE220.out) | exact HB.out)) hb); clear BK218; clear BK220; clear HB; have BK218 := n0_; have BK220 := n1_; have HB := n2_; clear n0_ n1_ n2_; (try clear hb); (try clear hb2); (try clear hk); (try clear hi)) | ((with_reducible refine gate_callee (f := 34) rfl ?_); refine goesL_ (some 118) rfl rfl Tryd.func34 (by kernel_rfl) rfl #[.string a0, .int .i64 t248] rfl (by (try simp only [List.map_toArray, List.map_cons, List.map_nil]); first | done | rfl | (simp only [List.length_drop, List.length_take]; rfl)) ?_; (with_reducible refine (numeralref10_at.calls a0 t248 t250 _ A61.out).mono ?_); rintro e w' ⟨rfl, ⟨nd, rfl⟩⟩; refine ⟨_, rfl, ?_⟩; (try (rw [drewN_self w83]; generalize hq_ : World.drewN w83 _ = w83; have n0_ : Aside0 (w83.heap[gb218]? = some (.cells #[.bool x219000_36, .int .i64 x219001_36, .string x219002_36, .int .i64 x219003_36, .bool x219004_36, .int .u64 x219005_36, .int .i64 x219006_36, .bool x219007_36] 43 (0, 0))) := ⟨by rw [← hq_]; exact (by (with_reducible repeat (first | refine blk_drewN ?_ _ | refine blk_drew ?_ | refine blk_alloc ?_ _)); exact BK218.out)⟩; have n1_ : Aside0 (w83.heap[gb220]? = some (.cells #[.bool z_, .int .i64 0, .string (⟨#[]⟩ : ByteArray), .int .i64 0, .bool false, .int .u64 0, .int .i64 0, .bool false] 43 (0, 0))) := ⟨by rw [← hq_]; exact (by (with_reducible repeat (first | refine blk_drewN ?_ _ | refine blk_drew ?_ | refine blk_alloc ?_ _)); exact BK220.out)⟩; have n2_ : Aside0 (Below w.heap.size w w83) := ⟨by rw [← hq_]; exact (by repeat (first | (with_reducible first | exact HB.out | apply below_alloc | apply pw_below_drewN | apply below_drew1 | refine below_set ?_ GE218.out | refine below_set ?_ GE220.out) | exact HB.out))⟩; clear BK218 BK220 HB hq_; have BK218 := n0_; have BK220 := n1_; have HB := n2_; clear n0_ n1_ n2_))) | ((with_reducible refine gate_callee (f := 36) rfl ?_); refine goesL_ (some 119) rfl rfl Tryd.func36 (by kernel_rfl) rfl #[.int .u8 t250] rfl (by (try simp only [List.map_toArray, List.map_cons, List.map_nil]); first | done | rfl | (simp only [List.length_drop, List.length_take]; rfl)) ?_; (with_reducible refine (numeralref10_small.calls t250 t251 _ A62.out).mono ?_); rintro e w' ⟨rfl, ⟨nd, rfl⟩⟩; refine ⟨_, rfl, ?_⟩; (try (rw [drewN_self w83]; generalize hq_ : World.drewN w83 _ = w83; have n0_ : Aside0 (w83.heap[gb218]? = some (.cells #[.bool x219000_36, .int .i64 x219001_36, .string x219002_36, .int .i64 x219003_36, .bool x219004_36, .int .u64 x219005_36, .int .i64 x219006_36, .bool x219007_36] 43 (0, 0))) := ⟨by rw [← hq_]; exact (by (with_reducible repeat (first | refine blk_drewN ?_ _ | refine blk_drew ?_ | refine blk_alloc ?_ _)); exact BK218.out)⟩; have n1_ : Aside0 (w83.heap[gb220]? = some (.cells #[.bool z_, .int .i64 0, .string (⟨#[]⟩ : ByteArray), .int .i64 0, .bool false, .int .u64 0, .int .i64 0, .bool false] 43 (0, 0))) := ⟨by rw [← hq_]; exact (by (with_reducible repeat (first | refine blk_drewN ?_ _ | refine blk_drew ?_ | refine blk_alloc ?_ _)); exact BK220.out)⟩; have n2_ : Aside0 (Below w.heap.size w w83) := ⟨by rw [← hq_]; exact (by repeat (first | (with_reducible first | exact HB.out | apply below_alloc | apply pw_below_drewN | apply below_drew1 | refine below_set ?_ GE218.out | refine below_set ?_ GE220.out) | exact HB.out))⟩; clear BK218 BK220 HB hq_; have BK218 := n0_; have BK220 := n1_; have HB := n2_; clear n0_ n1_ n2_)); have hnb84 := NB220_218.out; have hnc84 := NB218_220.out; have hcz85_0 : w83.cell? ⟨gb220, 0, none⟩ = some (.bool z_) := (blk_cell BK220.out 0).trans rfl; have hcz85_1 : w83.cell? ⟨gb220, 1, none⟩ = some (.int .i64 0) := (blk_cell BK220.out 1).trans rfl; have hcz85_2 : w83.cell? ⟨gb220, 2, none⟩ = some (.string (⟨#[]⟩ : ByteArray)) := (blk_cell BK220.out 2).trans rfl; have hcz85_3 : w83.cell? ⟨gb220, 3, none⟩ = some (.int .i64 0) := (blk_cell BK220.out 3).trans rfl; have hcz85_4 : w83.cell? ⟨gb220, 4, none⟩ = some (.bool false) := (blk_cell BK220.out 4).trans rfl; have hcz85_5 : w83.cell? ⟨gb220, 5, none⟩ = some (.int .u64 0) := (blk_cell BK220.out 5).trans rfl; have hcz85_6 : w83.cell? ⟨gb220, 6, none⟩ = some (.int .i64 0) := (blk_cell BK220.out 6).trans rfl; have hcz85_7 : w83.cell? ⟨gb220, 7, none⟩ = some (.bool false) := (blk_cell BK220.out 7).trans rfl; have hfz85_0 := blk_frozen BK220.out 0; have hfz85_1 := blk_frozen BK220.out 1; have hfz85_2 := blk_frozen BK220.out 2; have hfz85_3 := blk_frozen BK220.out 3; have hfz85_4 := blk_frozen BK220.out 4; have hfz85_5 := blk_frozen BK220.out 5; have hfz85_6 := blk_frozen BK220.out 6; have hfz85_7 := blk_frozen BK220.out 7) | ((with_reducible refine gate_callee (f := 40) rfl ?_); refine goesL_ (some 136) rfl rfl Tryd.func40 (by kernel_rfl) rfl #[.string t246, .string t247, .int .i64 0] rfl (by (try simp only [List.map_toArray, List.map_cons, List.map_nil]); first | done | rfl | (simp only [List.length_drop, List.length_take]; rfl)) ?_; (with_reducible refine (numeralref10_Dec.calls kj36 t246 t247 0 t261 t262 t263 _ A82.out).mono ?_); rintro e w86 ⟨rfl, hb⟩; refine ⟨_, rfl, ?_⟩; have n0_ := Aside0.mk (blk_below (g := gb218) (o := .cells #[.bool x219000_36, .int .i64 x219001_36, .string x219002_36, .int .i64 x219003_36, .bool x219004_36, .int .u64 x219005_36, .int .i64 x219006_36, .bool x219007_36] 43 (0, 0)) (by (with_reducible repeat (first | refine blk_drewN ?_ _ | refine blk_drew ?_ | refine blk_alloc ?_ _)); refine blk_far ?_ NB218_220.out _; (with_reducible repeat (first | refine blk_drewN ?_ _ | refine blk_drew ?_ | refine blk_alloc ?_ _)); exact BK218.out) hb); have n1_ := Aside0.mk (blk_below (g := gb220) (o := .cells #[.bool z_, .int .i64 1, .string (⟨#[]⟩ : ByteArray), .int .i64 0, .bool false, .int .u64 0, .int .i64 0, .bool false] 43 (0, 0)) (by (with_reducible repeat (first | refine blk_drewN ?_ _ | refine blk_drew ?_ | refine blk_alloc ?_ _)); refine blk_put (cs := #[.bool z_, .int .i64 0, .string (⟨#[]⟩ : ByteArray), .int .i64 0, .bool false, .int .u64 0, .int .i64 0, .bool false]) ?_ 1 _ rfl; (with_reducible repeat (first | refine blk_drewN ?_ _ | refine blk_drew ?_ | refine blk_alloc ?_ _)); exact BK220.out) hb); have n2_ := Aside0.mk (below_step (by repeat (first | (with_reducible first | exact HB.out | apply below_alloc | apply pw_below_drewN | apply below_drew1 | refine below_set ?_ GE218.out | refine below_set ?_ GE220.out) | exact HB.out)) hb); clear BK218; clear BK220; clear HB; have BK218 := n0_; have BK220 := n1_; have HB := n2_; clear n0_ n1_ n2_; (try clear hb); (try clear hb2); (try clear hk); (try clear hi); have hcz87_0 : w86.cell? ⟨gb220, 0, none⟩ = some (.bool z_) := (blk_cell BK220.out 0).trans rfl; have hcz87_1 : w86.cell? ⟨gb220, 1, none⟩ = some (.int .i64 1) := (blk_cell BK220.out 1).trans rfl; have hcz87_2 : w86.cell? ⟨gb220, 2, none⟩ = some (.string (⟨#[]⟩ : ByteArray)) := (blk_cell BK220.out 2).trans rfl; have hcz87_3 : w86.cell? ⟨gb220, 3, none⟩ = some (.int .i64 0) := (blk_cell BK220.out 3).trans rfl; have hcz87_4 : w86.cell? ⟨gb220, 4, none⟩ = some (.bool false) := (blk_cell BK220.out 4).trans rfl; have hcz87_5 : w86.cell? ⟨gb220, 5, none⟩ = some (.int .u64 0) := (blk_cell BK220.out 5).trans rfl; have hcz87_6 : w86.cell? ⟨gb220, 6, none⟩ = some (.int .i64 0) := (blk_cell BK220.out 6).trans rfl; have hcz87_7 : w86.cell? ⟨gb220, 7, none⟩ = some (.bool false) := (blk_cell BK220.out 7).trans rfl; have hfz87_0 := blk_frozen BK220.out 0; have hfz87_1 := blk_frozen BK220.out 1; have hfz87_2 := blk_frozen BK220.out 2; have hfz87_3 := blk_frozen BK220.out 3; have hfz87_4 := blk_frozen BK220.out 4; have hfz87_5 := blk_frozen BK220.out 5; have hfz87_6 := blk_frozen BK220.out 6; have hfz87_7 := blk_frozen BK220.out 7; have hcz88_0 : w86.cell? ⟨gb218, 0, none⟩ = some (.bool x219000_36) := (blk_cell BK218.out 0).trans rfl; have hcz88_1 : w86.cell? ⟨gb218, 1, none⟩ = some (.int .i64 x219001_36) := (blk_cell BK218.out 1).trans rfl; have hcz88_2 : w86.cell? ⟨gb218, 2, none⟩ = some (.string x219002_36) := (blk_cell BK218.out 2).trans rfl; have hcz88_3 : w86.cell? ⟨gb218, 3, none⟩ = some (.int .i64 x219003_36) := (blk_cell BK218.out 3).trans rfl; have hcz88_4 : w86.cell? ⟨gb218, 4, none⟩ = some (.bool x219004_36) := (blk_cell BK218.out 4).trans rfl; have hcz88_5 : w86.cell? ⟨gb218, 5, none⟩ = some (.int .u64 x219005_36) := (blk_cell BK218.out 5).trans rfl; have hcz88_6 : w86.cell? ⟨gb218, 6, none⟩ = some (.int .i64 x219006_36) := (blk_cell BK218.out 6).trans rfl; have hcz88_7 : w86.cell? ⟨gb218, 7, none⟩ = some (.bool x219007_36) := (blk_cell BK218.out 7).trans rfl; have hfz88_0 := blk_frozen BK218.out 0; have hfz88_1 := blk_frozen BK218.out 1; have hfz88_2 := blk_frozen BK218.out 2; have hfz88_3 := blk_frozen BK218.out 3; have hfz88_4 := blk_frozen BK218.out 4; have hfz88_5 := blk_frozen BK218.out 5; have hfz88_6 := blk_frozen BK218.out 6; have hfz88_7 := blk_frozen BK218.out 7))
                                refine bodyPost_ret (results_ctt rfl _ _ gb218 43 #[.bool z_, .int .i64 1, .string t261, .int .i64 t262, .bool t263, .int .u64 0, .int .i64 0, .bool false] (0, 0) _ rfl (by (with_reducible repeat (first | refine blk_drewN ?_ _ | refine blk_drew ?_ | refine blk_alloc ?_ _)); refine blk_put (cs := #[.bool z_, .int .i64 1, .string t261, .int .i64 t262, .bool t263, .int .u64 0, .int .i64 0, .bool x219007_36]) ?_ 7 _ rfl; (with_reducible repeat (first | refine blk_drewN ?_ _ | refine blk_drew ?_ | refine blk_alloc ?_ _)); refine blk_put (cs := #[.bool z_, .int .i64 1, .string t261, .int .i64 t262, .bool t263, .int .u64 0, .int .i64 x219006_36, .bool x219007_36]) ?_ 6 _ rfl; (with_reducible repeat (first | refine blk_drewN ?_ _ | refine blk_drew ?_ | refine blk_alloc ?_ _)); refine blk_put (cs := #[.bool z_, .int .i64 1, .string t261, .int .i64 t262, .bool t263, .int .u64 x219005_36, .int .i64 x219006_36, .bool x219007_36]) ?_ 5 _ rfl; (with_reducible repeat (first | refine blk_drewN ?_ _ | refine blk_drew ?_ | refine blk_alloc ?_ _)); refine blk_put (cs := #[.bool z_, .int .i64 1, .string t261, .int .i64 t262, .bool x219004_36, .int .u64 x219005_36, .int .i64 x219006_36, .bool x219007_36]) ?_ 4 _ rfl; (with_reducible repeat (first | refine blk_drewN ?_ _ | refine blk_drew ?_ | refine blk_alloc ?_ _)); refine blk_put (cs := #[.bool z_, .int .i64 1, .string t261, .int .i64 x219003_36, .bool x219004_36, .int .u64 x219005_36, .int .i64 x219006_36, .bool x219007_36]) ?_ 3 _ rfl; (with_reducible repeat (first | refine blk_drewN ?_ _ | refine blk_drew ?_ | refine blk_alloc ?_ _)); refine blk_put (cs := #[.bool z_, .int .i64 1, .string x219002_36, .int .i64 x219003_36, .bool x219004_36, .int .u64 x219005_36, .int .i64 x219006_36, .bool x219007_36]) ?_ 2 _ rfl; (with_reducible repeat (first | refine blk_drewN ?_ _ | refine blk_drew ?_ | refine blk_alloc ?_ _)); refine blk_put (cs := #[.bool z_, .int .i64 x219001_36, .string x219002_36, .int .i64 x219003_36, .bool x219004_36, .int .u64 x219005_36, .int .i64 x219006_36, .bool x219007_36]) ?_ 1 _ rfl; (with_reducible repeat (first | refine blk_drewN ?_ _ | refine blk_drew ?_ | refine blk_alloc ?_ _)); refine blk_put (cs := #[.bool x219000_36, .int .i64 x219001_36, .string x219002_36, .int .i64 x219003_36, .bool x219004_36, .int .u64 x219005_36, .int .i64 x219006_36, .bool x219007_36]) ?_ 0 _ rfl; (with_reducible repeat (first | refine blk_drewN ?_ _ | refine blk_drew ?_ | refine blk_alloc ?_ _)); refine blk_far ?_ NB218_220.out _; (with_reducible repeat (first | refine blk_drewN ?_ _ | refine blk_drew ?_ | refine blk_alloc ?_ _)); refine blk_far ?_ NB218_220.out _; (with_reducible repeat (first | refine blk_drewN ?_ _ | refine blk_drew ?_ | refine blk_alloc ?_ _)); refine blk_far ?_ NB218_220.out _; (with_reducible repeat (first | refine blk_drewN ?_ _ | refine blk_drew ?_ | refine blk_alloc ?_ _)); exact BK218.out) Tryd.underlying43 rfl (by kernel_rfl)) rfl ?_
                                exact ⟨by first | rfl | (simp [errW_none, errW_some] <;> rfl) | (simp [*, errW_none, errW_some] <;> rfl), by repeat (first | (with_reducible first | exact HB.out | apply below_alloc | apply pw_below_drewN | apply below_drew1 | refine below_set ?_ GE218.out | refine below_set ?_ GE220.out) | exact HB.out)⟩
                            · replace c60 := Bool.eq_false_iff.mpr c60
                              subst c60
                              have H1 : (some (false, 0, (⟨#[]⟩ : ByteArray), 0, false, 0, 0, false, 0, 3)) = some (r1, r2, r3, r4, r5, r6, r7, r8, r9, r10) := by rw [if_neg (show ¬ (false = true) by decide)] at H; exact H
                              clear H
                              have H := H1
                              clear H1
                              simp only [Option.some.injEq, Prod.mk.injEq] at H
                              obtain ⟨rfl, rfl, rfl, rfl, rfl, rfl, rfl, rfl, rfl, rfl⟩ := H
                              go_wp2_with (first | ((with_reducible refine gate_callee (f := 37) rfl ?_); refine goesL_ (some 108) rfl rfl Tryd.func37 (by kernel_rfl) rfl #[.string a0, .int .i64 x6_13, .bool false] rfl (by (try simp only [List.map_toArray, List.map_cons, List.map_nil]); first | done | rfl | (simp only [List.length_drop, List.length_take]; rfl)) ?_; (with_reducible refine (numeralref10_mantissa.calls kj36 a0 x6_13 false t246 t247 t248 false _ A59.out).mono ?_); rintro e w89 ⟨rfl, hb⟩; refine ⟨_, rfl, ?_⟩; have n0_ := Aside0.mk (blk_below (g := gb218) (o := .cells #[.bool x219000_36, .int .i64 x219001_36, .string x219002_36, .int .i64 x219003_36, .bool x219004_36, .int .u64 x219005_36, .int .i64 x219006_36, .bool x219007_36] 43 (0, 0)) (by (with_reducible repeat (first | refine blk_drewN ?_ _ | refine blk_drew ?_ | refine blk_alloc ?_ _)); exact BK218.out) hb); have n1_ := Aside0.mk (blk_below (g := gb220) (o := .cells #[.bool z_, .int .i64 0, .string (⟨#[]⟩ : ByteArray), .int .i64 0, .bool false, .int .u64 0, .int .i64 0, .bool false] 43 (0, 0)) (by (with_reducible repeat (first | refine blk_drewN ?_ _ | refine blk_drew ?_ | refine blk_alloc ?_ _)); exact BK220.out) hb); have n2_ := Aside0.mk (below_step (by repeat (first | (with_reducible first | exact HB.out | apply below_alloc | apply pw_below_drewN | apply below_drew1 | refine below_set ?_ GE218.out | refine below_set ?_ GE220.out) | exact HB.out)) hb); clear BK218; clear BK220; clear HB; have BK218 := n0_; have BK220 := n1_; have HB := n2_; clear n0_ n1_ n2_; (try clear hb); (try clear hb2); (try clear hk); (try clear hi); have hnb90 := NB218_220.out; have hnc90 := NB220_218.out; have hcz91_0 : w89.cell? ⟨gb218, 0, none⟩ = some (.bool x219000_36) := (blk_cell BK218.out 0).trans rfl; have hcz91_1 : w89.cell? ⟨gb218, 1, none⟩ = some (.int .i64 x219001_36) := (blk_cell BK218.out 1).trans rfl; have hcz91_2 : w89.cell? ⟨gb218, 2, none⟩ = some (.string x219002_36) := (blk_cell BK218.out 2).trans rfl; have hcz91_3 : w89.cell? ⟨gb218, 3, none⟩ = some (.int .i64 x219003_36) := (blk_cell BK218.out 3).trans rfl; have hcz91_4 : w89.cell? ⟨gb218, 4, none⟩ = some (.bool x219004_36) := (blk_cell BK218.out 4).trans rfl; have hcz91_5 : w89.cell? ⟨gb218, 5, none⟩ = some (.int .u64 x219005_36) := (blk_cell BK218.out 5).trans rfl; have hcz91_6 : w89.cell? ⟨gb218, 6, none⟩ = some (.int .i64 x219006_36) := (blk_cell BK218.out 6).trans rfl; have hcz91_7 : w89.cell? ⟨gb218, 7, none⟩ = some (.bool x219007_36) := (blk_cell BK218.out 7).trans rfl; have hfz91_0 := blk_frozen BK218.out 0; have hfz91_1 := blk_frozen BK218.out 1; have hfz91_2 := blk_frozen BK218.out 2; have hfz91_3 := blk_frozen BK218.out 3; have hfz91_4 := blk_frozen BK218.out 4; have hfz91_5 := blk_frozen BK218.out 5; have hfz91_6 := blk_frozen BK218.out 6; have hfz91_7 := blk_frozen BK218.out 7))
                              refine bodyPost_ret (results_ctt rfl _ _ gb218 43 #[.bool false, .int .i64 0, .string (⟨#[]⟩ : ByteArray), .int .i64 0, .bool false, .int .u64 0, .int .i64 0, .bool false] (0, 0) _ rfl (by (with_reducible repeat (first | refine blk_drewN ?_ _ | refine blk_drew ?_ | refine blk_alloc ?_ _)); refine blk_put (cs := #[.bool false, .int .i64 0, .string (⟨#[]⟩ : ByteArray), .int .i64 0, .bool false, .int .u64 0, .int .i64 0, .bool x219007_36]) ?_ 7 _ rfl; (with_reducible repeat (first | refine blk_drewN ?_ _ | refine blk_drew ?_ | refine blk_alloc ?_ _)); refine blk_put (cs := #[.bool false, .int .i64 0, .string (⟨#[]⟩ : ByteArray), .int .i64 0, .bool false, .int .u64 0, .int .i64 x219006_36, .bool x219007_36]) ?_ 6 _ rfl; (with_reducible repeat (first | refine blk_drewN ?_ _ | refine blk_drew ?_ | refine blk_alloc ?_ _)); refine blk_put (cs := #[.bool false, .int .i64 0, .string (⟨#[]⟩ : ByteArray), .int .i64 0, .bool false, .int .u64 x219005_36, .int .i64 x219006_36, .bool x219007_36]) ?_ 5 _ rfl; (with_reducible repeat (first | refine blk_drewN ?_ _ | refine blk_drew ?_ | refine blk_alloc ?_ _)); refine blk_put (cs := #[.bool false, .int .i64 0, .string (⟨#[]⟩ : ByteArray), .int .i64 0, .bool x219004_36, .int .u64 x219005_36, .int .i64 x219006_36, .bool x219007_36]) ?_ 4 _ rfl; (with_reducible repeat (first | refine blk_drewN ?_ _ | refine blk_drew ?_ | refine blk_alloc ?_ _)); refine blk_put (cs := #[.bool false, .int .i64 0, .string (⟨#[]⟩ : ByteArray), .int .i64 x219003_36, .bool x219004_36, .int .u64 x219005_36, .int .i64 x219006_36, .bool x219007_36]) ?_ 3 _ rfl; (with_reducible repeat (first | refine blk_drewN ?_ _ | refine blk_drew ?_ | refine blk_alloc ?_ _)); refine blk_put (cs := #[.bool false, .int .i64 0, .string x219002_36, .int .i64 x219003_36, .bool x219004_36, .int .u64 x219005_36, .int .i64 x219006_36, .bool x219007_36]) ?_ 2 _ rfl; (with_reducible repeat (first | refine blk_drewN ?_ _ | refine blk_drew ?_ | refine blk_alloc ?_ _)); refine blk_put (cs := #[.bool false, .int .i64 x219001_36, .string x219002_36, .int .i64 x219003_36, .bool x219004_36, .int .u64 x219005_36, .int .i64 x219006_36, .bool x219007_36]) ?_ 1 _ rfl; (with_reducible repeat (first | refine blk_drewN ?_ _ | refine blk_drew ?_ | refine blk_alloc ?_ _)); refine blk_put (cs := #[.bool x219000_36, .int .i64 x219001_36, .string x219002_36, .int .i64 x219003_36, .bool x219004_36, .int .u64 x219005_36, .int .i64 x219006_36, .bool x219007_36]) ?_ 0 _ rfl; (with_reducible repeat (first | refine blk_drewN ?_ _ | refine blk_drew ?_ | refine blk_alloc ?_ _)); exact BK218.out) Tryd.underlying43 rfl (by kernel_rfl)) rfl ?_
                              exact ⟨by first | rfl | (simp [errW_none, errW_some] <;> rfl) | (simp [*, errW_none, errW_some] <;> rfl), by repeat (first | (with_reducible first | exact HB.out | apply below_alloc | apply pw_below_drewN | apply below_drew1 | refine below_set ?_ GE218.out | refine below_set ?_ GE220.out) | exact HB.out)⟩

end Go.Proofs.YtmncgmgcngokoaaDoor.Xb
