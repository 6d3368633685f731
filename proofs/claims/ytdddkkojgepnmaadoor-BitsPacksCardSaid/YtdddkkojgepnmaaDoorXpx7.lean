-- PRINTED by print.py (a twelfth state) out of the translation. Not trusted: Lean checks it.
import Derived.Test.YtdddkkojgepnmaaDoorXpx0
import Derived.Test.YtdddkkojgepnmaaDoorXpx6
namespace Go.Proofs.YtdddkkojgepnmaaDoor.Xp
open Go.RowKit Go.Proofs.YtdddkkojgepnmaaDoorW.PrintWords Go.Proofs.YtdddkkojgepnmaaDoorW.PrintLast Go.Proofs.YtdddkkojgepnmaaDoorW.PrintMore
attribute [local go_sem] max2_int min2_int max_two min_two max_three min_three max_four min_four   -- for this text's walks alone
set_option linter.unusedVariables false
set_option linter.unusedSimpArgs false

/-! ### numeralref11_Signed: function 32 -/
def numeralref11_Signed.f (a0 : Bool) (a1 : Int) (a2 : Int) : Option (Int) := if a0 = true then ((numeralref11_sign.f a2).bind fun t164 => (some (Go.bits .or .u64 a1 t164))) else (some a1)
set_option maxHeartbeats 8000000 in
set_option maxRecDepth 100000 in
theorem numeralref11_Signed.calls (a0 : Bool) (a1 : Int) (a2 : Int) (r : Int) (w : World) (h : numeralref11_Signed.f a0 a1 a2 = some r) :
    Calls Tryd.prog 32 #[.bool a0, .int .u64 a1, .int .i64 a2] w fun e w' => e = .returned (.int .u64 r) ∧ Drawn0 w w' := by
  have H : (if a0 = true then ((numeralref11_sign.f a2).bind fun t164 => (some (Go.bits .or .u64 a1 t164))) else (some a1)) = some r := h
  clear h
  by_cases c4 : a0 = true
  · subst c4
    have H1 : ((numeralref11_sign.f a2).bind fun t164 => (some (Go.bits .or .u64 a1 t164))) = some r := by rw [if_pos rfl] at H; exact H
    clear H
    have H := H1
    clear H1
    replace H := Option.bind_eq_some_iff.mp H
    obtain ⟨t164, A50, H⟩ := H
    replace H : (some (Go.bits .or .u64 a1 t164)) = some r := H
    have A5 := Aside0.mk A50
    clear A50
    obtain rfl := Option.some.inj H
    go_enter Tryd.func32, Tryd.ntmps32
    go_wp2_with (first | ((with_reducible refine gate_callee (f := 51) rfl ?_); refine goesL_ (some 10) rfl rfl Tryd.func51 (by kernel_rfl) rfl #[.int .i64 a2] rfl (by (try simp only [List.map_toArray, List.map_cons, List.map_nil]); first | done | rfl | (simp only [List.length_drop, List.length_take]; rfl)) ?_; (with_reducible refine (numeralref11_sign.calls a2 t164 _ A5.out).mono ?_); rintro e w' ⟨rfl, ⟨nd, rfl⟩⟩; refine ⟨_, rfl, ?_⟩))
    go_ret
    exact ⟨by first | rfl | (simp; done) | (simp [*]; done), by repeat (first | exact Drawn0.refl _ | apply Drawn0.step)⟩
  · replace c4 := Bool.eq_false_iff.mpr c4
    subst c4
    have H1 : (some a1) = some r := by rw [if_neg (show ¬ (false = true) by decide)] at H; exact H
    clear H
    have H := H1
    clear H1
    obtain rfl := Option.some.inj H
    go_enter Tryd.func32, Tryd.ntmps32
    go_wp2
    go_ret
    exact ⟨by first | rfl | (simp; done) | (simp [*]; done), by repeat (first | exact Drawn0.refl _ | apply Drawn0.step)⟩

/-! ### numeralref11_Low: function 48 -/
def numeralref11_Low.f (a0 : Int) : Option (Int) := if a0 = 32 then (some (-149)) else (some (-1074))
set_option maxHeartbeats 8000000 in
set_option maxRecDepth 100000 in
theorem numeralref11_Low.calls (a0 : Int) (r : Int) (w : World) (h : numeralref11_Low.f a0 = some r) :
    Calls Tryd.prog 48 #[.int .i64 a0] w fun e w' => e = .returned (.int .i64 r) ∧ Drawn0 w w' := by
  have H : (if a0 = 32 then (some (-149)) else (some (-1074))) = some r := h
  clear h
  by_cases c2 : a0 = 32
  · rw [if_pos c2] at H
    have c2b0 : (a0 == 32) = true := beq_iff_eq.mpr c2
    have c2b1 : (a0 != 32) = false := bne_eq_false_iff_eq.mpr c2
    clear c2
    obtain rfl := Option.some.inj H
    go_enter Tryd.func48, Tryd.ntmps48
    go_wp2
    go_ret
    exact ⟨by first | rfl | (simp; done) | (simp [*]; done), by repeat (first | exact Drawn0.refl _ | apply Drawn0.step)⟩
  · rw [if_neg c2] at H
    have c2b0 : (a0 == 32) = false := beq_eq_false_iff_ne.mpr c2
    have c2b1 : (a0 != 32) = true := bne_iff_ne.mpr c2
    obtain rfl := Option.some.inj H
    go_enter Tryd.func48, Tryd.ntmps48
    go_wp2
    go_ret
    exact ⟨by first | rfl | (simp; done) | (simp [*]; done), by repeat (first | exact Drawn0.refl _ | apply Drawn0.step)⟩

end Go.Proofs.YtdddkkojgepnmaaDoor.Xp
