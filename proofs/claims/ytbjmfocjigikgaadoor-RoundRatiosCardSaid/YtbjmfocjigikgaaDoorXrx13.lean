-- PRINTED by print.py (a twelfth state) out of the translation. Not trusted: Lean checks it.
import Derived.Test.YtbjmfocjigikgaaDoorXrx0
import Derived.Test.YtbjmfocjigikgaaDoorXrx1
import Derived.Test.YtbjmfocjigikgaaDoorXrx3
import Derived.Test.YtbjmfocjigikgaaDoorXrx5
import Derived.Test.YtbjmfocjigikgaaDoorXrx6
import Derived.Test.YtbjmfocjigikgaaDoorXrx12
namespace Go.Proofs.YtbjmfocjigikgaaDoor.Xr
open Go.RowKit Go.Proofs.YtbjmfocjigikgaaDoorW.PrintWords Go.Proofs.YtbjmfocjigikgaaDoorW.PrintLast Go.Proofs.YtbjmfocjigikgaaDoorW.PrintMore
attribute [local go_sem] max2_int min2_int max_two min_two max_three min_three max_four min_four   -- for this text's walks alone
set_option linter.unusedVariables false
set_option linter.unusedSimpArgs false

/-! ### numerallaw12_same: function 11 -/
def numerallaw12_same.l0 : Nat → List Int → List Int → Int → Option (Bool)
 | 0, _, _, _ => none
 | k + 1, x0, x1, x5 => if x5 < (x0.length : Int) then (if 0 ≤ x5 then (if x5 < (x1.length : Int) then (if (rd x0 x5) = (rd x1 x5) then (numerallaw12_same.l0 k x0 x1 (wrap64 (x5 + 1))) else (some false)) else (none)) else (none)) else (some true)
def numerallaw12_same.f (k : Nat) (l0 : List Int) (l1 : List Int) : Option (Bool) := if (l0.length : Int) = (l1.length : Int) then (numerallaw12_same.l0 k l0 l1 0) else (some false)
set_option maxHeartbeats 8000000 in
set_option maxRecDepth 100000 in
theorem numerallaw12_same.calls (k : Nat) (A0 : Option Addr) (c0 : Nat) (l0 : List Int) (A1 : Option Addr) (c1 : Nat) (l1 : List Int) (r : Bool) (w : World) (hr0 : Kd.C (Kd.int .u64) w A0 l0.length l0) (hc0 : l0.length ≤ c0) (hr1 : Kd.C (Kd.int .u64) w A1 l1.length l1) (hc1 : l1.length ≤ c1) (h : numerallaw12_same.f k l0 l1 = some r) :
  Calls Tryd.prog 11 #[.slice A0 l0.length c0, .slice A1 l1.length c1] w fun e w' => e = .returned (.bool r) ∧ Drawn0 w w' := by
 have HR0 := Aside0.mk hr0
 have HC0 := Aside0.mk hc0
 clear hr0 hc0
 have HR1 := Aside0.mk hr1
 have HC1 := Aside0.mk hc1
 clear hr1 hc1
 have H : (if (l0.length : Int) = (l1.length : Int) then (numerallaw12_same.l0 k l0 l1 0) else (some false)) = some r := h
 clear h
 by_cases c3 : (l0.length : Int) = (l1.length : Int)
 ·rw [if_pos c3] at H
  have c3b0 : ((l0.length : Int) == (l1.length : Int)) = true := beq_iff_eq.mpr c3
  have c3b1 : ((l0.length : Int) != (l1.length : Int)) = false := bne_eq_false_iff_eq.mpr c3
  have c3b2 : (l0.length == l1.length) = true := by first | simpa using c3 | (simp at c3 ⊢; omega)
  clear c3
  have H' := Aside0.mk H
  clear H
  go_enter Tryd.func11, Tryd.ntmps11
  go_wp2
  repeat (go_quiet (fail); try go_wp2)
  go_loopg [5] k (fun kq v5 w' => ∃ (x5_1 : Int), v5 = .int .i64 x5_1 ∧ Aside0 (numerallaw12_same.l0 kq l0 l1 x5_1 = some r) ∧ Aside0 (kq ≤ k) ∧ Drawn0 w w')
  case atStart => exact ⟨(0), (by first | rfl | (simp; done) | (simp [*]; done)), H', ⟨Nat.le_refl _⟩, by repeat (first | exact Drawn0.refl _ | apply Drawn0.step)⟩
  case round =>
   clear H'
   try clear c1
   try clear p2
   try clear c3
   try clear c3b0
   try clear c3b1
   try clear c3b2
   obtain ⟨x5_1, rfl, HA, HK1, ⟨m1, rfl⟩⟩ := hrel
   cases gk with
   | zero => exact absurd HA.out (by simp [numerallaw12_same.l0])
   | succ k1 =>
    have H := HA.out
    clear HA
    simp only [numerallaw12_same.l0] at H
    by_cases c4 : x5_1 < (l0.length : Int)
    ·rw [if_pos c4] at H
     have c4b0 : decide (x5_1 < (l0.length : Int)) = true := decide_eq_true c4
     clear c4
     by_cases c5 : 0 ≤ x5_1
     ·rw [if_pos c5] at H
      have c5b0 : decide (0 ≤ x5_1) = true := decide_eq_true c5
      clear c5
      by_cases c6 : x5_1 < (l1.length : Int)
      ·rw [if_pos c6] at H
       have c6b0 : decide (x5_1 < (l1.length : Int)) = true := decide_eq_true c6
       clear c6
       by_cases c7 : (rd l0 x5_1) = (rd l1 x5_1)
       ·rw [if_pos c7] at H
        have c7b0 : ((rd l0 x5_1) == (rd l1 x5_1)) = true := beq_iff_eq.mpr c7
        have c7b1 : ((rd l0 x5_1) != (rd l1 x5_1)) = false := bne_eq_false_iff_eq.mpr c7
        clear c7
        have H' := Aside0.mk H
        clear H
        have p414 : 0 ≤ (x5_1 : Int) := of_decide_eq_true (by first | (with_reducible assumption) | assumption)
        have q414 : x5_1 < (l0.length : Int) := of_decide_eq_true (by first | (with_reducible assumption) | assumption)
        obtain ⟨ad414, e414, hx414_0⟩ := Kd.at_int HR0.out x5_1 p414 q414
        cases e414
        replace p414 := eq_true p414
        replace q414 := eq_true q414
        have p415 : 0 ≤ (x5_1 : Int) := of_decide_eq_true (by first | (with_reducible assumption) | assumption)
        have q415 : x5_1 < (l1.length : Int) := of_decide_eq_true (by first | (with_reducible assumption) | assumption)
        obtain ⟨ad415, e415, hx415_0⟩ := Kd.at_int HR1.out x5_1 p415 q415
        cases e415
        replace p415 := eq_true p415
        replace q415 := eq_true q415
        go_wp2
        repeat (go_quiet (fail); try go_wp2)
        go_roundg k1
        case measure => have := HK1.out; omega
        case rel => exact ⟨(wrap64 (x5_1 + 1)), (by first | rfl | (simp; done) | (simp [*]; done)), H', ⟨by have := HK1.out; omega⟩, by repeat (first | exact Drawn0.refl _ | apply Drawn0.step)⟩
       ·rw [if_neg c7] at H
        have c7b0 : ((rd l0 x5_1) == (rd l1 x5_1)) = false := beq_eq_false_iff_ne.mpr c7
        have c7b1 : ((rd l0 x5_1) != (rd l1 x5_1)) = true := bne_iff_ne.mpr c7
        obtain rfl := Option.some.inj H
        have p414 : 0 ≤ (x5_1 : Int) := of_decide_eq_true (by first | (with_reducible assumption) | assumption)
        have q414 : x5_1 < (l0.length : Int) := of_decide_eq_true (by first | (with_reducible assumption) | assumption)
        obtain ⟨ad414, e414, hx414_0⟩ := Kd.at_int HR0.out x5_1 p414 q414
        cases e414
        replace p414 := eq_true p414
        replace q414 := eq_true q414
        have p415 : 0 ≤ (x5_1 : Int) := of_decide_eq_true (by first | (with_reducible assumption) | assumption)
        have q415 : x5_1 < (l1.length : Int) := of_decide_eq_true (by first | (with_reducible assumption) | assumption)
        obtain ⟨ad415, e415, hx415_0⟩ := Kd.at_int HR1.out x5_1 p415 q415
        cases e415
        replace p415 := eq_true p415
        replace q415 := eq_true q415
        go_wp2
        repeat (go_quiet (fail); try go_wp2)
        go_ret
        exact ⟨by first | rfl | (simp; done) | (simp [*]; done), by repeat (first | exact Drawn0.refl _ | apply Drawn0.step)⟩
      ·rw [if_neg c6] at H
       exact absurd H (by simp)
     ·rw [if_neg c5] at H
      exact absurd H (by simp)
    ·rw [if_neg c4] at H
     have c4b0 : decide (x5_1 < (l0.length : Int)) = false := decide_eq_false c4
     clear c4
     obtain rfl := Option.some.inj H
     go_wp2
     repeat (go_quiet (fail); try go_wp2)
     go_ret
     exact ⟨by first | rfl | (simp; done) | (simp [*]; done), by repeat (first | exact Drawn0.refl _ | apply Drawn0.step)⟩
 ·rw [if_neg c3] at H
  have c3b0 : ((l0.length : Int) == (l1.length : Int)) = false := beq_eq_false_iff_ne.mpr c3
  have c3b1 : ((l0.length : Int) != (l1.length : Int)) = true := bne_iff_ne.mpr c3
  have c3b2 : (l0.length == l1.length) = false := by first | simpa using c3 | (simp at c3 ⊢; omega)
  obtain rfl := Option.some.inj H
  go_enter Tryd.func11, Tryd.ntmps11
  go_wp2
  repeat (go_quiet (fail); try go_wp2)
  go_ret
  exact ⟨by first | rfl | (simp; done) | (simp [*]; done), by repeat (first | exact Drawn0.refl _ | apply Drawn0.step)⟩

/-! ### round_Whole: function 13 -/
def round_Whole.f (k : Nat) (a0 : Int) (a1 : Bool) (a2 : Int) (a3 : Int) (a4 : Bool) : Option (Int × Option Int) := (round_format.f a0).bind fun bt416 => (if bt416.2.2 = true then ((round_far.f a3).bind fun t419 => (if t419 = true then (some (0, some 1)) else (if a2 = 0 then ((bits_Zero.f k a1 a0).bind fun bt420 => (some (bt420.1, bt420.2))) else ((bits_LeadingZeros64.f a2).bind fun t422 => (if 0 ≤ (IntKind.u64.wrap (t422)) then (if (mx (wrap64 (63 - bt416.1)) (wrap64 ((wrap64 (bt416.2.1 - 1)) - (wrap64 (a3 - t422))))) > 63 then ((round_pack.f k a0 a1 0 bt416.2.1 false true).bind fun bt423 => (some (bt423.1, bt423.2))) else (if a4 = true then (if 0 ≤ (IntKind.u64.wrap (mx (wrap64 (63 - bt416.1)) (wrap64 ((wrap64 (bt416.2.1 - 1)) - (wrap64 (a3 - t422)))))) then ((round_pack.f k a0 a1 ((shr .u64 (shl .u64 a2 (IntKind.u64.wrap (t422))) (IntKind.u64.wrap (mx (wrap64 (63 - bt416.1)) (wrap64 ((wrap64 (bt416.2.1 - 1)) - (wrap64 (a3 - t422))))))) / 2) (wrap64 ((wrap64 ((wrap64 (a3 - t422)) + (mx (wrap64 (63 - bt416.1)) (wrap64 ((wrap64 (bt416.2.1 - 1)) - (wrap64 (a3 - t422))))))) + 1)) ((Go.bits .and .u64 (shr .u64 (shl .u64 a2 (IntKind.u64.wrap (t422))) (IntKind.u64.wrap (mx (wrap64 (63 - bt416.1)) (wrap64 ((wrap64 (bt416.2.1 - 1)) - (wrap64 (a3 - t422))))))) 1) == 1) true).bind fun bt425 => (some (bt425.1, bt425.2))) else (none)) else (if 0 ≤ (IntKind.u64.wrap (mx (wrap64 (63 - bt416.1)) (wrap64 ((wrap64 (bt416.2.1 - 1)) - (wrap64 (a3 - t422)))))) then ((round_pack.f k a0 a1 ((shr .u64 (shl .u64 a2 (IntKind.u64.wrap (t422))) (IntKind.u64.wrap (mx (wrap64 (63 - bt416.1)) (wrap64 ((wrap64 (bt416.2.1 - 1)) - (wrap64 (a3 - t422))))))) / 2) (wrap64 ((wrap64 ((wrap64 (a3 - t422)) + (mx (wrap64 (63 - bt416.1)) (wrap64 ((wrap64 (bt416.2.1 - 1)) - (wrap64 (a3 - t422))))))) + 1)) ((Go.bits .and .u64 (shr .u64 (shl .u64 a2 (IntKind.u64.wrap (t422))) (IntKind.u64.wrap (mx (wrap64 (63 - bt416.1)) (wrap64 ((wrap64 (bt416.2.1 - 1)) - (wrap64 (a3 - t422))))))) 1) == 1) ((Go.bits .and .u64 (shl .u64 a2 (IntKind.u64.wrap (t422))) (IntKind.u64.wrap ((shl .u64 1 (IntKind.u64.wrap (mx (wrap64 (63 - bt416.1)) (wrap64 ((wrap64 (bt416.2.1 - 1)) - (wrap64 (a3 - t422))))))) - 1))) != 0)).bind fun bt427 => (some (bt427.1, bt427.2))) else (none)))) else (none)))))) else (some (0, some 5)))
theorem round_Whole.mono : ∀ a0 a1 a2 a3 a4 k, LeO (round_Whole.f k a0 a1 a2 a3 a4) (round_Whole.f (k + 1) a0 a1 a2 a3 a4) := by
 intro a0 a1 a2 a3 a4 k
 unfold round_Whole.f
 repeat' first
   | (with_reducible exact bits_Zero.mono _ _ _)
   | (with_reducible exact round_pack.mono _ _ _ _ _ _ _)
   | (with_reducible exact LeO.refl _)
   | (with_reducible exact LeO.none _)
   | (with_reducible refine LeO.ite ?_ ?_)
   | (with_reducible refine LeO.bind ?_ (fun _ => ?_))
   | exact bits_Zero.mono _ _ _
   | exact round_pack.mono _ _ _ _ _ _ _
   | exact LeO.none _
   | refine LeO.ite ?_ ?_
   | refine LeO.bind ?_ (fun _ => ?_)
set_option maxHeartbeats 8000000 in
set_option maxRecDepth 100000 in
theorem round_Whole.calls (k : Nat) (a0 : Int) (a1 : Bool) (a2 : Int) (a3 : Int) (a4 : Bool) (r1 : Int) (r2 : Option Int) (w : World) (hl_DB64 : Laid_DB64 w) (h : round_Whole.f k a0 a1 a2 a3 a4 = some (r1, r2)) :
  Calls Tryd.prog 13 #[.int .i64 a0, .bool a1, .int .u64 a2, .int .i64 a3, .bool a4] w fun e w' => e = .returned (.tuple #[.int .u64 r1, errW r2]) ∧ Below w.heap.size w w' := by
 have hu29 := Tryd.underlying29
 have hu55 := Tryd.underlying55
 have HB := Aside0.mk (Below.refl w.heap.size w)
 have HL_DB64 := Aside0.mk hl_DB64
 clear hl_DB64
 have H : ((round_format.f a0).bind fun bt416 => (if bt416.2.2 = true then ((round_far.f a3).bind fun t419 => (if t419 = true then (some (0, some 1)) else (if a2 = 0 then ((bits_Zero.f k a1 a0).bind fun bt420 => (some (bt420.1, bt420.2))) else ((bits_LeadingZeros64.f a2).bind fun t422 => (if 0 ≤ (IntKind.u64.wrap (t422)) then (if (mx (wrap64 (63 - bt416.1)) (wrap64 ((wrap64 (bt416.2.1 - 1)) - (wrap64 (a3 - t422))))) > 63 then ((round_pack.f k a0 a1 0 bt416.2.1 false true).bind fun bt423 => (some (bt423.1, bt423.2))) else (if a4 = true then (if 0 ≤ (IntKind.u64.wrap (mx (wrap64 (63 - bt416.1)) (wrap64 ((wrap64 (bt416.2.1 - 1)) - (wrap64 (a3 - t422)))))) then ((round_pack.f k a0 a1 ((shr .u64 (shl .u64 a2 (IntKind.u64.wrap (t422))) (IntKind.u64.wrap (mx (wrap64 (63 - bt416.1)) (wrap64 ((wrap64 (bt416.2.1 - 1)) - (wrap64 (a3 - t422))))))) / 2) (wrap64 ((wrap64 ((wrap64 (a3 - t422)) + (mx (wrap64 (63 - bt416.1)) (wrap64 ((wrap64 (bt416.2.1 - 1)) - (wrap64 (a3 - t422))))))) + 1)) ((Go.bits .and .u64 (shr .u64 (shl .u64 a2 (IntKind.u64.wrap (t422))) (IntKind.u64.wrap (mx (wrap64 (63 - bt416.1)) (wrap64 ((wrap64 (bt416.2.1 - 1)) - (wrap64 (a3 - t422))))))) 1) == 1) true).bind fun bt425 => (some (bt425.1, bt425.2))) else (none)) else (if 0 ≤ (IntKind.u64.wrap (mx (wrap64 (63 - bt416.1)) (wrap64 ((wrap64 (bt416.2.1 - 1)) - (wrap64 (a3 - t422)))))) then ((round_pack.f k a0 a1 ((shr .u64 (shl .u64 a2 (IntKind.u64.wrap (t422))) (IntKind.u64.wrap (mx (wrap64 (63 - bt416.1)) (wrap64 ((wrap64 (bt416.2.1 - 1)) - (wrap64 (a3 - t422))))))) / 2) (wrap64 ((wrap64 ((wrap64 (a3 - t422)) + (mx (wrap64 (63 - bt416.1)) (wrap64 ((wrap64 (bt416.2.1 - 1)) - (wrap64 (a3 - t422))))))) + 1)) ((Go.bits .and .u64 (shr .u64 (shl .u64 a2 (IntKind.u64.wrap (t422))) (IntKind.u64.wrap (mx (wrap64 (63 - bt416.1)) (wrap64 ((wrap64 (bt416.2.1 - 1)) - (wrap64 (a3 - t422))))))) 1) == 1) ((Go.bits .and .u64 (shl .u64 a2 (IntKind.u64.wrap (t422))) (IntKind.u64.wrap ((shl .u64 1 (IntKind.u64.wrap (mx (wrap64 (63 - bt416.1)) (wrap64 ((wrap64 (bt416.2.1 - 1)) - (wrap64 (a3 - t422))))))) - 1))) != 0)).bind fun bt427 => (some (bt427.1, bt427.2))) else (none)))) else (none)))))) else (some (0, some 5)))) = some (r1, r2) := h
 clear h
 replace H := Option.bind_eq_some_iff.mp H
 obtain ⟨⟨t416, t417, t418⟩, A60, H⟩ := H
 replace H : (if t418 = true then ((round_far.f a3).bind fun t419 => (if t419 = true then (some (0, some 1)) else (if a2 = 0 then ((bits_Zero.f k a1 a0).bind fun bt420 => (some (bt420.1, bt420.2))) else ((bits_LeadingZeros64.f a2).bind fun t422 => (if 0 ≤ (IntKind.u64.wrap (t422)) then (if (mx (wrap64 (63 - t416)) (wrap64 ((wrap64 (t417 - 1)) - (wrap64 (a3 - t422))))) > 63 then ((round_pack.f k a0 a1 0 t417 false true).bind fun bt423 => (some (bt423.1, bt423.2))) else (if a4 = true then (if 0 ≤ (IntKind.u64.wrap (mx (wrap64 (63 - t416)) (wrap64 ((wrap64 (t417 - 1)) - (wrap64 (a3 - t422)))))) then ((round_pack.f k a0 a1 ((shr .u64 (shl .u64 a2 (IntKind.u64.wrap (t422))) (IntKind.u64.wrap (mx (wrap64 (63 - t416)) (wrap64 ((wrap64 (t417 - 1)) - (wrap64 (a3 - t422))))))) / 2) (wrap64 ((wrap64 ((wrap64 (a3 - t422)) + (mx (wrap64 (63 - t416)) (wrap64 ((wrap64 (t417 - 1)) - (wrap64 (a3 - t422))))))) + 1)) ((Go.bits .and .u64 (shr .u64 (shl .u64 a2 (IntKind.u64.wrap (t422))) (IntKind.u64.wrap (mx (wrap64 (63 - t416)) (wrap64 ((wrap64 (t417 - 1)) - (wrap64 (a3 - t422))))))) 1) == 1) true).bind fun bt425 => (some (bt425.1, bt425.2))) else (none)) else (if 0 ≤ (IntKind.u64.wrap (mx (wrap64 (63 - t416)) (wrap64 ((wrap64 (t417 - 1)) - (wrap64 (a3 - t422)))))) then ((round_pack.f k a0 a1 ((shr .u64 (shl .u64 a2 (IntKind.u64.wrap (t422))) (IntKind.u64.wrap (mx (wrap64 (63 - t416)) (wrap64 ((wrap64 (t417 - 1)) - (wrap64 (a3 - t422))))))) / 2) (wrap64 ((wrap64 ((wrap64 (a3 - t422)) + (mx (wrap64 (63 - t416)) (wrap64 ((wrap64 (t417 - 1)) - (wrap64 (a3 - t422))))))) + 1)) ((Go.bits .and .u64 (shr .u64 (shl .u64 a2 (IntKind.u64.wrap (t422))) (IntKind.u64.wrap (mx (wrap64 (63 - t416)) (wrap64 ((wrap64 (t417 - 1)) - (wrap64 (a3 - t422))))))) 1) == 1) ((Go.bits .and .u64 (shl .u64 a2 (IntKind.u64.wrap (t422))) (IntKind.u64.wrap ((shl .u64 1 (IntKind.u64.wrap (mx (wrap64 (63 - t416)) (wrap64 ((wrap64 (t417 - 1)) - (wrap64 (a3 - t422))))))) - 1))) != 0)).bind fun bt427 => (some (bt427.1, bt427.2))) else (none)))) else (none)))))) else (some (0, some 5))) = some (r1, r2) := H
 have A6 := Aside0.mk A60
 clear A60
 by_cases c7 : t418 = true
 ·subst c7
  have H1 : ((round_far.f a3).bind fun t419 => (if t419 = true then (some (0, some 1)) else (if a2 = 0 then ((bits_Zero.f k a1 a0).bind fun bt420 => (some (bt420.1, bt420.2))) else ((bits_LeadingZeros64.f a2).bind fun t422 => (if 0 ≤ (IntKind.u64.wrap (t422)) then (if (mx (wrap64 (63 - t416)) (wrap64 ((wrap64 (t417 - 1)) - (wrap64 (a3 - t422))))) > 63 then ((round_pack.f k a0 a1 0 t417 false true).bind fun bt423 => (some (bt423.1, bt423.2))) else (if a4 = true then (if 0 ≤ (IntKind.u64.wrap (mx (wrap64 (63 - t416)) (wrap64 ((wrap64 (t417 - 1)) - (wrap64 (a3 - t422)))))) then ((round_pack.f k a0 a1 ((shr .u64 (shl .u64 a2 (IntKind.u64.wrap (t422))) (IntKind.u64.wrap (mx (wrap64 (63 - t416)) (wrap64 ((wrap64 (t417 - 1)) - (wrap64 (a3 - t422))))))) / 2) (wrap64 ((wrap64 ((wrap64 (a3 - t422)) + (mx (wrap64 (63 - t416)) (wrap64 ((wrap64 (t417 - 1)) - (wrap64 (a3 - t422))))))) + 1)) ((Go.bits .and .u64 (shr .u64 (shl .u64 a2 (IntKind.u64.wrap (t422))) (IntKind.u64.wrap (mx (wrap64 (63 - t416)) (wrap64 ((wrap64 (t417 - 1)) - (wrap64 (a3 - t422))))))) 1) == 1) true).bind fun bt425 => (some (bt425.1, bt425.2))) else (none)) else (if 0 ≤ (IntKind.u64.wrap (mx (wrap64 (63 - t416)) (wrap64 ((wrap64 (t417 - 1)) - (wrap64 (a3 - t422)))))) then ((round_pack.f k a0 a1 ((shr .u64 (shl .u64 a2 (IntKind.u64.wrap (t422))) (IntKind.u64.wrap (mx (wrap64 (63 - t416)) (wrap64 ((wrap64 (t417 - 1)) - (wrap64 (a3 - t422))))))) / 2) (wrap64 ((wrap64 ((wrap64 (a3 - t422)) + (mx (wrap64 (63 - t416)) (wrap64 ((wrap64 (t417 - 1)) - (wrap64 (a3 - t422))))))) + 1)) ((Go.bits .and .u64 (shr .u64 (shl .u64 a2 (IntKind.u64.wrap (t422))) (IntKind.u64.wrap (mx (wrap64 (63 - t416)) (wrap64 ((wrap64 (t417 - 1)) - (wrap64 (a3 - t422))))))) 1) == 1) ((Go.bits .and .u64 (shl .u64 a2 (IntKind.u64.wrap (t422))) (IntKind.u64.wrap ((shl .u64 1 (IntKind.u64.wrap (mx (wrap64 (63 - t416)) (wrap64 ((wrap64 (t417 - 1)) - (wrap64 (a3 - t422))))))) - 1))) != 0)).bind fun bt427 => (some (bt427.1, bt427.2))) else (none)))) else (none)))))) = some (r1, r2) := by rw [if_pos rfl] at H; exact H
  clear H
  have H := H1
  clear H1
  replace H := Option.bind_eq_some_iff.mp H
  obtain ⟨t419, A80, H⟩ := H
  replace H : (if t419 = true then (some (0, some 1)) else (if a2 = 0 then ((bits_Zero.f k a1 a0).bind fun bt420 => (some (bt420.1, bt420.2))) else ((bits_LeadingZeros64.f a2).bind fun t422 => (if 0 ≤ (IntKind.u64.wrap (t422)) then (if (mx (wrap64 (63 - t416)) (wrap64 ((wrap64 (t417 - 1)) - (wrap64 (a3 - t422))))) > 63 then ((round_pack.f k a0 a1 0 t417 false true).bind fun bt423 => (some (bt423.1, bt423.2))) else (if a4 = true then (if 0 ≤ (IntKind.u64.wrap (mx (wrap64 (63 - t416)) (wrap64 ((wrap64 (t417 - 1)) - (wrap64 (a3 - t422)))))) then ((round_pack.f k a0 a1 ((shr .u64 (shl .u64 a2 (IntKind.u64.wrap (t422))) (IntKind.u64.wrap (mx (wrap64 (63 - t416)) (wrap64 ((wrap64 (t417 - 1)) - (wrap64 (a3 - t422))))))) / 2) (wrap64 ((wrap64 ((wrap64 (a3 - t422)) + (mx (wrap64 (63 - t416)) (wrap64 ((wrap64 (t417 - 1)) - (wrap64 (a3 - t422))))))) + 1)) ((Go.bits .and .u64 (shr .u64 (shl .u64 a2 (IntKind.u64.wrap (t422))) (IntKind.u64.wrap (mx (wrap64 (63 - t416)) (wrap64 ((wrap64 (t417 - 1)) - (wrap64 (a3 - t422))))))) 1) == 1) true).bind fun bt425 => (some (bt425.1, bt425.2))) else (none)) else (if 0 ≤ (IntKind.u64.wrap (mx (wrap64 (63 - t416)) (wrap64 ((wrap64 (t417 - 1)) - (wrap64 (a3 - t422)))))) then ((round_pack.f k a0 a1 ((shr .u64 (shl .u64 a2 (IntKind.u64.wrap (t422))) (IntKind.u64.wrap (mx (wrap64 (63 - t416)) (wrap64 ((wrap64 (t417 - 1)) - (wrap64 (a3 - t422))))))) / 2) (wrap64 ((wrap64 ((wrap64 (a3 - t422)) + (mx (wrap64 (63 - t416)) (wrap64 ((wrap64 (t417 - 1)) - (wrap64 (a3 - t422))))))) + 1)) ((Go.bits .and .u64 (shr .u64 (shl .u64 a2 (IntKind.u64.wrap (t422))) (IntKind.u64.wrap (mx (wrap64 (63 - t416)) (wrap64 ((wrap64 (t417 - 1)) - (wrap64 (a3 - t422))))))) 1) == 1) ((Go.bits .and .u64 (shl .u64 a2 (IntKind.u64.wrap (t422))) (IntKind.u64.wrap ((shl .u64 1 (IntKind.u64.wrap (mx (wrap64 (63 - t416)) (wrap64 ((wrap64 (t417 - 1)) - (wrap64 (a3 - t422))))))) - 1))) != 0)).bind fun bt427 => (some (bt427.1, bt427.2))) else (none)))) else (none))))) = some (r1, r2) := H
  have A8 := Aside0.mk A80
  clear A80
  by_cases c9 : t419 = true
  ·subst c9
   have H1 : (some (0, some 1)) = some (r1, r2) := by rw [if_pos rfl] at H; exact H
   clear H
   have H := H1
   clear H1
   simp only [Option.some.injEq, Prod.mk.injEq] at H
   obtain ⟨rfl, rfl⟩ := H
   go_enter Tryd.func13, Tryd.ntmps13
   go_wp2_with (first | ((with_reducible refine gate_callee (f := 23) rfl ?_); refine goesL_ (some 19) rfl rfl Tryd.func23 (by kernel_rfl) rfl #[.int .i64 a0] rfl (by (try simp only [List.map_toArray, List.map_cons, List.map_nil]); first | done | rfl | (simp only [List.length_drop, List.length_take]; rfl)) ?_; (with_reducible refine (round_format.calls a0 t416 t417 true _ A6.out).mono ?_); rintro e w' ⟨rfl, ⟨nd, rfl⟩⟩; refine ⟨_, rfl, ?_⟩) | ((with_reducible refine gate_callee (f := 25) rfl ?_); refine goesL_ (some 29) rfl rfl Tryd.func25 (by kernel_rfl) rfl #[.int .i64 a3] rfl (by (try simp only [List.map_toArray, List.map_cons, List.map_nil]); first | done | rfl | (simp only [List.length_drop, List.length_take]; rfl)) ?_; (with_reducible refine (round_far.calls a3 true _ A8.out).mono ?_); rintro e w' ⟨rfl, ⟨nd, rfl⟩⟩; refine ⟨_, rfl, ?_⟩))
   go_ret2
   exact ⟨by first | rfl | (simp [errW_none, errW_some] <;> rfl) | (simp [*, errW_none, errW_some] <;> rfl), by repeat (first | (with_reducible first | exact HB.out | apply below_alloc | apply pw_below_drewN | apply below_drew1) | exact HB.out)⟩
  ·replace c9 := Bool.eq_false_iff.mpr c9
   subst c9
   have H1 : (if a2 = 0 then ((bits_Zero.f k a1 a0).bind fun bt420 => (some (bt420.1, bt420.2))) else ((bits_LeadingZeros64.f a2).bind fun t422 => (if 0 ≤ (IntKind.u64.wrap (t422)) then (if (mx (wrap64 (63 - t416)) (wrap64 ((wrap64 (t417 - 1)) - (wrap64 (a3 - t422))))) > 63 then ((round_pack.f k a0 a1 0 t417 false true).bind fun bt423 => (some (bt423.1, bt423.2))) else (if a4 = true then (if 0 ≤ (IntKind.u64.wrap (mx (wrap64 (63 - t416)) (wrap64 ((wrap64 (t417 - 1)) - (wrap64 (a3 - t422)))))) then ((round_pack.f k a0 a1 ((shr .u64 (shl .u64 a2 (IntKind.u64.wrap (t422))) (IntKind.u64.wrap (mx (wrap64 (63 - t416)) (wrap64 ((wrap64 (t417 - 1)) - (wrap64 (a3 - t422))))))) / 2) (wrap64 ((wrap64 ((wrap64 (a3 - t422)) + (mx (wrap64 (63 - t416)) (wrap64 ((wrap64 (t417 - 1)) - (wrap64 (a3 - t422))))))) + 1)) ((Go.bits .and .u64 (shr .u64 (shl .u64 a2 (IntKind.u64.wrap (t422))) (IntKind.u64.wrap (mx (wrap64 (63 - t416)) (wrap64 ((wrap64 (t417 - 1)) - (wrap64 (a3 - t422))))))) 1) == 1) true).bind fun bt425 => (some (bt425.1, bt425.2))) else (none)) else (if 0 ≤ (IntKind.u64.wrap (mx (wrap64 (63 - t416)) (wrap64 ((wrap64 (t417 - 1)) - (wrap64 (a3 - t422)))))) then ((round_pack.f k a0 a1 ((shr .u64 (shl .u64 a2 (IntKind.u64.wrap (t422))) (IntKind.u64.wrap (mx (wrap64 (63 - t416)) (wrap64 ((wrap64 (t417 - 1)) - (wrap64 (a3 - t422))))))) / 2) (wrap64 ((wrap64 ((wrap64 (a3 - t422)) + (mx (wrap64 (63 - t416)) (wrap64 ((wrap64 (t417 - 1)) - (wrap64 (a3 - t422))))))) + 1)) ((Go.bits .and .u64 (shr .u64 (shl .u64 a2 (IntKind.u64.wrap (t422))) (IntKind.u64.wrap (mx (wrap64 (63 - t416)) (wrap64 ((wrap64 (t417 - 1)) - (wrap64 (a3 - t422))))))) 1) == 1) ((Go.bits .and .u64 (shl .u64 a2 (IntKind.u64.wrap (t422))) (IntKind.u64.wrap ((shl .u64 1 (IntKind.u64.wrap (mx (wrap64 (63 - t416)) (wrap64 ((wrap64 (t417 - 1)) - (wrap64 (a3 - t422))))))) - 1))) != 0)).bind fun bt427 => (some (bt427.1, bt427.2))) else (none)))) else (none)))) = some (r1, r2) := by rw [if_neg (show ¬ (false = true) by decide)] at H; exact H
   clear H
   have H := H1
   clear H1
   by_cases c10 : a2 = 0
   ·rw [if_pos c10] at H
    have c10b0 : (a2 == 0) = true := beq_iff_eq.mpr c10
    have c10b1 : (a2 != 0) = false := bne_eq_false_iff_eq.mpr c10
    clear c10
    replace H := Option.bind_eq_some_iff.mp H
    obtain ⟨⟨t420, t421⟩, A110, H⟩ := H
    replace H : (some (t420, t421)) = some (r1, r2) := H
    have A11 := Aside0.mk A110
    clear A110
    simp only [Option.some.injEq, Prod.mk.injEq] at H
    obtain ⟨rfl, rfl⟩ := H
    go_enter Tryd.func13, Tryd.ntmps13
    go_wp2_with (first | ((with_reducible refine gate_callee (f := 23) rfl ?_); refine goesL_ (some 19) rfl rfl Tryd.func23 (by kernel_rfl) rfl #[.int .i64 a0] rfl (by (try simp only [List.map_toArray, List.map_cons, List.map_nil]); first | done | rfl | (simp only [List.length_drop, List.length_take]; rfl)) ?_; (with_reducible refine (round_format.calls a0 t416 t417 true _ A6.out).mono ?_); rintro e w' ⟨rfl, ⟨nd, rfl⟩⟩; refine ⟨_, rfl, ?_⟩) | ((with_reducible refine gate_callee (f := 25) rfl ?_); refine goesL_ (some 29) rfl rfl Tryd.func25 (by kernel_rfl) rfl #[.int .i64 a3] rfl (by (try simp only [List.map_toArray, List.map_cons, List.map_nil]); first | done | rfl | (simp only [List.length_drop, List.length_take]; rfl)) ?_; (with_reducible refine (round_far.calls a3 false _ A8.out).mono ?_); rintro e w' ⟨rfl, ⟨nd, rfl⟩⟩; refine ⟨_, rfl, ?_⟩) | ((with_reducible refine gate_callee (f := 26) rfl ?_); refine goesL_ (some 36) rfl rfl Tryd.func26 (by kernel_rfl) rfl #[.bool a1, .int .i64 a0] rfl (by (try simp only [List.map_toArray, List.map_cons, List.map_nil]); first | done | rfl | (simp only [List.length_drop, List.length_take]; rfl)) ?_; (with_reducible refine (bits_Zero.calls k a1 a0 t420 t421 _ ?side1 A11.out).mono ?_); (case side1 => exact Laid_DB64.of_below HL_DB64.out (by repeat (first | (with_reducible first | exact HB.out | apply below_alloc | apply pw_below_drewN | apply below_drew1) | exact HB.out))); rintro e w12 ⟨rfl, hb⟩; refine ⟨_, rfl, ?_⟩; have n0_ := Aside0.mk (below_step (by repeat (first | (with_reducible first | exact HB.out | apply below_alloc | apply pw_below_drewN | apply below_drew1) | exact HB.out)) hb); clear HB; have HB := n0_; clear n0_; (try clear hb); (try clear hb2); (try clear hk); (try clear hi); (try simp only [errW_none, errW_some])))
    go_ret2
    exact ⟨by first | rfl | (simp [errW_none, errW_some] <;> rfl) | (simp [*, errW_none, errW_some] <;> rfl), by repeat (first | (with_reducible first | exact HB.out | apply below_alloc | apply pw_below_drewN | apply below_drew1) | exact HB.out)⟩
   ·rw [if_neg c10] at H
    have c10b0 : (a2 == 0) = false := beq_eq_false_iff_ne.mpr c10
    have c10b1 : (a2 != 0) = true := bne_iff_ne.mpr c10
    replace H := Option.bind_eq_some_iff.mp H
    obtain ⟨t422, A130, H⟩ := H
    replace H : (if 0 ≤ (IntKind.u64.wrap (t422)) then (if (mx (wrap64 (63 - t416)) (wrap64 ((wrap64 (t417 - 1)) - (wrap64 (a3 - t422))))) > 63 then ((round_pack.f k a0 a1 0 t417 false true).bind fun bt423 => (some (bt423.1, bt423.2))) else (if a4 = true then (if 0 ≤ (IntKind.u64.wrap (mx (wrap64 (63 - t416)) (wrap64 ((wrap64 (t417 - 1)) - (wrap64 (a3 - t422)))))) then ((round_pack.f k a0 a1 ((shr .u64 (shl .u64 a2 (IntKind.u64.wrap (t422))) (IntKind.u64.wrap (mx (wrap64 (63 - t416)) (wrap64 ((wrap64 (t417 - 1)) - (wrap64 (a3 - t422))))))) / 2) (wrap64 ((wrap64 ((wrap64 (a3 - t422)) + (mx (wrap64 (63 - t416)) (wrap64 ((wrap64 (t417 - 1)) - (wrap64 (a3 - t422))))))) + 1)) ((Go.bits .and .u64 (shr .u64 (shl .u64 a2 (IntKind.u64.wrap (t422))) (IntKind.u64.wrap (mx (wrap64 (63 - t416)) (wrap64 ((wrap64 (t417 - 1)) - (wrap64 (a3 - t422))))))) 1) == 1) true).bind fun bt425 => (some (bt425.1, bt425.2))) else (none)) else (if 0 ≤ (IntKind.u64.wrap (mx (wrap64 (63 - t416)) (wrap64 ((wrap64 (t417 - 1)) - (wrap64 (a3 - t422)))))) then ((round_pack.f k a0 a1 ((shr .u64 (shl .u64 a2 (IntKind.u64.wrap (t422))) (IntKind.u64.wrap (mx (wrap64 (63 - t416)) (wrap64 ((wrap64 (t417 - 1)) - (wrap64 (a3 - t422))))))) / 2) (wrap64 ((wrap64 ((wrap64 (a3 - t422)) + (mx (wrap64 (63 - t416)) (wrap64 ((wrap64 (t417 - 1)) - (wrap64 (a3 - t422))))))) + 1)) ((Go.bits .and .u64 (shr .u64 (shl .u64 a2 (IntKind.u64.wrap (t422))) (IntKind.u64.wrap (mx (wrap64 (63 - t416)) (wrap64 ((wrap64 (t417 - 1)) - (wrap64 (a3 - t422))))))) 1) == 1) ((Go.bits .and .u64 (shl .u64 a2 (IntKind.u64.wrap (t422))) (IntKind.u64.wrap ((shl .u64 1 (IntKind.u64.wrap (mx (wrap64 (63 - t416)) (wrap64 ((wrap64 (t417 - 1)) - (wrap64 (a3 - t422))))))) - 1))) != 0)).bind fun bt427 => (some (bt427.1, bt427.2))) else (none)))) else (none)) = some (r1, r2) := H
    have A13 := Aside0.mk A130
    clear A130
    by_cases c14 : 0 ≤ (IntKind.u64.wrap (t422))
    ·rw [if_pos c14] at H
     have c14b0 := eq_true c14
     have c14b1 : decide (0 ≤ (IntKind.u64.wrap (t422))) = true := decide_eq_true c14
     clear c14
     obtain ⟨ji15, hji15⟩ : ∃ j_ : Int, (shl .u64 a2 (IntKind.u64.wrap (t422))) = j_ := ⟨_, rfl⟩
     replace H : (if (mx (wrap64 (63 - t416)) (wrap64 ((wrap64 (t417 - 1)) - (wrap64 (a3 - t422))))) > 63 then ((round_pack.f k a0 a1 0 t417 false true).bind fun bt423 => (some (bt423.1, bt423.2))) else (if a4 = true then (if 0 ≤ (IntKind.u64.wrap (mx (wrap64 (63 - t416)) (wrap64 ((wrap64 (t417 - 1)) - (wrap64 (a3 - t422)))))) then ((round_pack.f k a0 a1 ((shr .u64 (ji15) (IntKind.u64.wrap (mx (wrap64 (63 - t416)) (wrap64 ((wrap64 (t417 - 1)) - (wrap64 (a3 - t422))))))) / 2) (wrap64 ((wrap64 ((wrap64 (a3 - t422)) + (mx (wrap64 (63 - t416)) (wrap64 ((wrap64 (t417 - 1)) - (wrap64 (a3 - t422))))))) + 1)) ((Go.bits .and .u64 (shr .u64 (ji15) (IntKind.u64.wrap (mx (wrap64 (63 - t416)) (wrap64 ((wrap64 (t417 - 1)) - (wrap64 (a3 - t422))))))) 1) == 1) true).bind fun bt425 => (some (bt425.1, bt425.2))) else (none)) else (if 0 ≤ (IntKind.u64.wrap (mx (wrap64 (63 - t416)) (wrap64 ((wrap64 (t417 - 1)) - (wrap64 (a3 - t422)))))) then ((round_pack.f k a0 a1 ((shr .u64 (ji15) (IntKind.u64.wrap (mx (wrap64 (63 - t416)) (wrap64 ((wrap64 (t417 - 1)) - (wrap64 (a3 - t422))))))) / 2) (wrap64 ((wrap64 ((wrap64 (a3 - t422)) + (mx (wrap64 (63 - t416)) (wrap64 ((wrap64 (t417 - 1)) - (wrap64 (a3 - t422))))))) + 1)) ((Go.bits .and .u64 (shr .u64 (ji15) (IntKind.u64.wrap (mx (wrap64 (63 - t416)) (wrap64 ((wrap64 (t417 - 1)) - (wrap64 (a3 - t422))))))) 1) == 1) ((Go.bits .and .u64 (ji15) (IntKind.u64.wrap ((shl .u64 1 (IntKind.u64.wrap (mx (wrap64 (63 - t416)) (wrap64 ((wrap64 (t417 - 1)) - (wrap64 (a3 - t422))))))) - 1))) != 0)).bind fun bt427 => (some (bt427.1, bt427.2))) else (none)))) = some (r1, r2) := by first | (rw [hji15] at H; exact H) | (simp only [hji15] at H ⊢; exact H)
     (try rw [hji15] at A6)
     (try rw [hji15] at A8)
     (try rw [hji15] at A13)
     have hji15_ : (IntKind.u64.wrap (a2 * 2 ^ min (IntKind.u64.wrap (t422)).toNat 64)) = ji15 := hji15
     have hji15z : (IntKind.u64.wrap (t422)) ≤ 64 → (IntKind.u64.wrap (a2 * 2 ^ (IntKind.u64.wrap (t422)).toNat)) = ji15 := shl_small hji15
     obtain ⟨ji16, hji16⟩ : ∃ j_ : Int, (mx (wrap64 (63 - t416)) (wrap64 ((wrap64 (t417 - 1)) - (wrap64 (a3 - t422))))) = j_ := ⟨_, rfl⟩
     replace H : (if (ji16) > 63 then ((round_pack.f k a0 a1 0 t417 false true).bind fun bt423 => (some (bt423.1, bt423.2))) else (if a4 = true then (if 0 ≤ (IntKind.u64.wrap (ji16)) then ((round_pack.f k a0 a1 ((shr .u64 (ji15) (IntKind.u64.wrap (ji16))) / 2) (wrap64 ((wrap64 ((wrap64 (a3 - t422)) + (ji16))) + 1)) ((Go.bits .and .u64 (shr .u64 (ji15) (IntKind.u64.wrap (ji16))) 1) == 1) true).bind fun bt425 => (some (bt425.1, bt425.2))) else (none)) else (if 0 ≤ (IntKind.u64.wrap (ji16)) then ((round_pack.f k a0 a1 ((shr .u64 (ji15) (IntKind.u64.wrap (ji16))) / 2) (wrap64 ((wrap64 ((wrap64 (a3 - t422)) + (ji16))) + 1)) ((Go.bits .and .u64 (shr .u64 (ji15) (IntKind.u64.wrap (ji16))) 1) == 1) ((Go.bits .and .u64 (ji15) (IntKind.u64.wrap ((shl .u64 1 (IntKind.u64.wrap (ji16))) - 1))) != 0)).bind fun bt427 => (some (bt427.1, bt427.2))) else (none)))) = some (r1, r2) := by first | (rw [hji16] at H; exact H) | (simp only [hji16] at H ⊢; exact H)
     (try rw [hji16] at A6)
     (try rw [hji16] at A8)
     (try rw [hji16] at A13)
     have hji16_ : (if (wrap64 (63 - t416)) < (wrap64 ((wrap64 (t417 - 1)) - (wrap64 (a3 - t422)))) then (wrap64 ((wrap64 (t417 - 1)) - (wrap64 (a3 - t422)))) else (wrap64 (63 - t416))) = ji16 := hji16
     by_cases c17 : (ji16) > 63
     ·rw [if_pos c17] at H
      have c17b0 : decide (63 < (ji16)) = true := decide_eq_true c17
      clear c17
      replace H := Option.bind_eq_some_iff.mp H
      obtain ⟨⟨t423, t424⟩, A180, H⟩ := H
      replace H : (some (t423, t424)) = some (r1, r2) := H
      have A18 := Aside0.mk A180
      clear A180
      simp only [Option.some.injEq, Prod.mk.injEq] at H
      obtain ⟨rfl, rfl⟩ := H
      go_enter Tryd.func13, Tryd.ntmps13
      go_wp2_with (first | ((with_reducible refine gate_callee (f := 23) rfl ?_); refine goesL_ (some 19) rfl rfl Tryd.func23 (by kernel_rfl) rfl #[.int .i64 a0] rfl (by (try simp only [List.map_toArray, List.map_cons, List.map_nil]); first | done | rfl | (simp only [List.length_drop, List.length_take]; rfl)) ?_; (with_reducible refine (round_format.calls a0 t416 t417 true _ A6.out).mono ?_); rintro e w' ⟨rfl, ⟨nd, rfl⟩⟩; refine ⟨_, rfl, ?_⟩) | ((with_reducible refine gate_callee (f := 25) rfl ?_); refine goesL_ (some 29) rfl rfl Tryd.func25 (by kernel_rfl) rfl #[.int .i64 a3] rfl (by (try simp only [List.map_toArray, List.map_cons, List.map_nil]); first | done | rfl | (simp only [List.length_drop, List.length_take]; rfl)) ?_; (with_reducible refine (round_far.calls a3 false _ A8.out).mono ?_); rintro e w' ⟨rfl, ⟨nd, rfl⟩⟩; refine ⟨_, rfl, ?_⟩) | ((with_reducible refine gate_callee (f := 37) rfl ?_); refine goesL_ (some 40) rfl rfl Tryd.func37 (by kernel_rfl) rfl #[.int .u64 a2] rfl (by (try simp only [List.map_toArray, List.map_cons, List.map_nil]); first | done | rfl | (simp only [List.length_drop, List.length_take]; rfl)) ?_; (with_reducible refine (bits_LeadingZeros64.calls a2 t422 _ A13.out).mono ?_); rintro e w19 ⟨rfl, hb⟩; refine ⟨_, rfl, ?_⟩; have n0_ := Aside0.mk (below_step (by repeat (first | (with_reducible first | exact HB.out | apply below_alloc | apply pw_below_drewN | apply below_drew1) | exact HB.out)) hb); clear HB; have HB := n0_; clear n0_; (try clear hb); (try clear hb2); (try clear hk); (try clear hi)) | ((with_reducible refine gate_callee (f := 33) rfl ?_); refine goesL_ (some 60) rfl rfl Tryd.func33 (by kernel_rfl) rfl #[.int .i64 a0, .bool a1, .int .u64 0, .int .i64 t417, .bool false, .bool true] rfl (by (try simp only [List.map_toArray, List.map_cons, List.map_nil]); first | done | rfl | (simp only [List.length_drop, List.length_take]; rfl)) ?_; (with_reducible refine (round_pack.calls k a0 a1 0 t417 false true t423 t424 _ ?side1 A18.out).mono ?_); (case side1 => exact Laid_DB64.of_below HL_DB64.out (by repeat (first | (with_reducible first | exact HB.out | apply below_alloc | apply pw_below_drewN | apply below_drew1) | exact HB.out))); rintro e w20 ⟨rfl, hb⟩; refine ⟨_, rfl, ?_⟩; have n0_ := Aside0.mk (below_step (by repeat (first | (with_reducible first | exact HB.out | apply below_alloc | apply pw_below_drewN | apply below_drew1) | exact HB.out)) hb); clear HB; have HB := n0_; clear n0_; (try clear hb); (try clear hb2); (try clear hk); (try clear hi); (try simp only [errW_none, errW_some])))
      go_ret2
      exact ⟨by first | rfl | (simp [errW_none, errW_some] <;> rfl) | (simp only [← hji15, ← hji16]; first | rfl | (simp [errW_none, errW_some] <;> rfl)) | (simp [*, errW_none, errW_some] <;> rfl), by repeat (first | (with_reducible first | exact HB.out | apply below_alloc | apply pw_below_drewN | apply below_drew1) | exact HB.out)⟩
     ·rw [if_neg c17] at H
      have c17b0 : decide (63 < (ji16)) = false := decide_eq_false c17
      clear c17
      by_cases c21 : a4 = true
      ·subst c21
       have H1 : (if 0 ≤ (IntKind.u64.wrap (ji16)) then ((round_pack.f k a0 a1 ((shr .u64 (ji15) (IntKind.u64.wrap (ji16))) / 2) (wrap64 ((wrap64 ((wrap64 (a3 - t422)) + (ji16))) + 1)) ((Go.bits .and .u64 (shr .u64 (ji15) (IntKind.u64.wrap (ji16))) 1) == 1) true).bind fun bt425 => (some (bt425.1, bt425.2))) else (none)) = some (r1, r2) := by rw [if_pos rfl] at H; exact H
       clear H
       have H := H1
       clear H1
       by_cases c22 : 0 ≤ (IntKind.u64.wrap (ji16))
       ·rw [if_pos c22] at H
        have c22b0 := eq_true c22
        have c22b1 : decide (0 ≤ (IntKind.u64.wrap (ji16))) = true := decide_eq_true c22
        clear c22
        obtain ⟨ji23, hji23⟩ : ∃ j_ : Int, (shr .u64 (ji15) (IntKind.u64.wrap (ji16))) = j_ := ⟨_, rfl⟩
        replace H : ((round_pack.f k a0 a1 ((ji23) / 2) (wrap64 ((wrap64 ((wrap64 (a3 - t422)) + (ji16))) + 1)) ((Go.bits .and .u64 (ji23) 1) == 1) true).bind fun bt425 => (some (bt425.1, bt425.2))) = some (r1, r2) := by first | (rw [hji23] at H; exact H) | (simp only [hji23] at H ⊢; exact H)
        (try rw [hji23] at A6)
        (try rw [hji23] at A8)
        (try rw [hji23] at A13)
        have hji23_ : ((ji15) / 2 ^ min (IntKind.u64.wrap (ji16)).toNat 64) = ji23 := hji23
        have hji23z : (IntKind.u64.wrap (ji16)) ≤ 64 → ((ji15) / 2 ^ (IntKind.u64.wrap (ji16)).toNat) = ji23 := shr_small hji23
        obtain ⟨ji24, hji24⟩ : ∃ j_ : Int, (Go.bits .and .u64 (ji23) 1) = j_ := ⟨_, rfl⟩
        replace H : ((round_pack.f k a0 a1 ((ji23) / 2) (wrap64 ((wrap64 ((wrap64 (a3 - t422)) + (ji16))) + 1)) ((ji24) == 1) true).bind fun bt425 => (some (bt425.1, bt425.2))) = some (r1, r2) := by first | (rw [hji24] at H; exact H) | (simp only [hji24] at H ⊢; exact H)
        (try rw [hji24] at A6)
        (try rw [hji24] at A8)
        (try rw [hji24] at A13)
        replace H := Option.bind_eq_some_iff.mp H
        obtain ⟨⟨t425, t426⟩, A250, H⟩ := H
        replace H : (some (t425, t426)) = some (r1, r2) := H
        have A25 := Aside0.mk A250
        clear A250
        simp only [Option.some.injEq, Prod.mk.injEq] at H
        obtain ⟨rfl, rfl⟩ := H
        go_enter Tryd.func13, Tryd.ntmps13
        go_wp2_with (first | ((with_reducible refine gate_callee (f := 23) rfl ?_); refine goesL_ (some 19) rfl rfl Tryd.func23 (by kernel_rfl) rfl #[.int .i64 a0] rfl (by (try simp only [List.map_toArray, List.map_cons, List.map_nil]); first | done | rfl | (simp only [List.length_drop, List.length_take]; rfl)) ?_; (with_reducible refine (round_format.calls a0 t416 t417 true _ A6.out).mono ?_); rintro e w' ⟨rfl, ⟨nd, rfl⟩⟩; refine ⟨_, rfl, ?_⟩) | ((with_reducible refine gate_callee (f := 25) rfl ?_); refine goesL_ (some 29) rfl rfl Tryd.func25 (by kernel_rfl) rfl #[.int .i64 a3] rfl (by (try simp only [List.map_toArray, List.map_cons, List.map_nil]); first | done | rfl | (simp only [List.length_drop, List.length_take]; rfl)) ?_; (with_reducible refine (round_far.calls a3 false _ A8.out).mono ?_); rintro e w' ⟨rfl, ⟨nd, rfl⟩⟩; refine ⟨_, rfl, ?_⟩) | ((with_reducible refine gate_callee (f := 37) rfl ?_); refine goesL_ (some 40) rfl rfl Tryd.func37 (by kernel_rfl) rfl #[.int .u64 a2] rfl (by (try simp only [List.map_toArray, List.map_cons, List.map_nil]); first | done | rfl | (simp only [List.length_drop, List.length_take]; rfl)) ?_; (with_reducible refine (bits_LeadingZeros64.calls a2 t422 _ A13.out).mono ?_); rintro e w26 ⟨rfl, hb⟩; refine ⟨_, rfl, ?_⟩; have n0_ := Aside0.mk (below_step (by repeat (first | (with_reducible first | exact HB.out | apply below_alloc | apply pw_below_drewN | apply below_drew1) | exact HB.out)) hb); clear HB; have HB := n0_; clear n0_; (try clear hb); (try clear hb2); (try clear hk); (try clear hi)) | ((with_reducible refine gate_callee (f := 33) rfl ?_); refine goesL_ (some 89) rfl rfl Tryd.func33 (by kernel_rfl) rfl #[.int .i64 a0, .bool a1, .int .u64 ((ji23) / 2), .int .i64 (wrap64 ((wrap64 ((wrap64 (a3 - t422)) + (ji16))) + 1)), .bool ((ji24) == 1), .bool true] rfl (by (try simp only [List.map_toArray, List.map_cons, List.map_nil]); first | done | (simp only [hji16, hji23, hji24]; rfl) | rfl | (simp only [List.length_drop, List.length_take]; rfl)) ?_; (with_reducible refine (round_pack.calls k a0 a1 ((ji23) / 2) (wrap64 ((wrap64 ((wrap64 (a3 - t422)) + (ji16))) + 1)) ((ji24) == 1) true t425 t426 _ ?side1 A25.out).mono ?_); (case side1 => exact Laid_DB64.of_below HL_DB64.out (by repeat (first | (with_reducible first | exact HB.out | apply below_alloc | apply pw_below_drewN | apply below_drew1) | exact HB.out))); rintro e w27 ⟨rfl, hb⟩; refine ⟨_, rfl, ?_⟩; have n0_ := Aside0.mk (below_step (by repeat (first | (with_reducible first | exact HB.out | apply below_alloc | apply pw_below_drewN | apply below_drew1) | exact HB.out)) hb); clear HB; have HB := n0_; clear n0_; (try clear hb); (try clear hb2); (try clear hk); (try clear hi); (try simp only [errW_none, errW_some])))
        go_ret2
        exact ⟨by first | rfl | (simp [errW_none, errW_some] <;> rfl) | (simp only [← hji15, ← hji16, ← hji23, ← hji24]; first | rfl | (simp [errW_none, errW_some] <;> rfl)) | (simp [*, errW_none, errW_some] <;> rfl), by repeat (first | (with_reducible first | exact HB.out | apply below_alloc | apply pw_below_drewN | apply below_drew1) | exact HB.out)⟩
       ·rw [if_neg c22] at H
        exact absurd H (by simp)
      ·replace c21 := Bool.eq_false_iff.mpr c21
       subst c21
       have H1 : (if 0 ≤ (IntKind.u64.wrap (ji16)) then ((round_pack.f k a0 a1 ((shr .u64 (ji15) (IntKind.u64.wrap (ji16))) / 2) (wrap64 ((wrap64 ((wrap64 (a3 - t422)) + (ji16))) + 1)) ((Go.bits .and .u64 (shr .u64 (ji15) (IntKind.u64.wrap (ji16))) 1) == 1) ((Go.bits .and .u64 (ji15) (IntKind.u64.wrap ((shl .u64 1 (IntKind.u64.wrap (ji16))) - 1))) != 0)).bind fun bt427 => (some (bt427.1, bt427.2))) else (none)) = some (r1, r2) := by rw [if_neg (show ¬ (false = true) by decide)] at H; exact H
       clear H
       have H := H1
       clear H1
       by_cases c28 : 0 ≤ (IntKind.u64.wrap (ji16))
       ·rw [if_pos c28] at H
        have c28b0 := eq_true c28
        have c28b1 : decide (0 ≤ (IntKind.u64.wrap (ji16))) = true := decide_eq_true c28
        clear c28
        obtain ⟨ji29, hji29⟩ : ∃ j_ : Int, (shl .u64 1 (IntKind.u64.wrap (ji16))) = j_ := ⟨_, rfl⟩
        replace H : ((round_pack.f k a0 a1 ((shr .u64 (ji15) (IntKind.u64.wrap (ji16))) / 2) (wrap64 ((wrap64 ((wrap64 (a3 - t422)) + (ji16))) + 1)) ((Go.bits .and .u64 (shr .u64 (ji15) (IntKind.u64.wrap (ji16))) 1) == 1) ((Go.bits .and .u64 (ji15) (IntKind.u64.wrap ((ji29) - 1))) != 0)).bind fun bt427 => (some (bt427.1, bt427.2))) = some (r1, r2) := by first | (rw [hji29] at H; exact H) | (simp only [hji29] at H ⊢; exact H)
        (try rw [hji29] at A6)
        (try rw [hji29] at A8)
        (try rw [hji29] at A13)
        have hji29_ : (IntKind.u64.wrap (1 * 2 ^ min (IntKind.u64.wrap (ji16)).toNat 64)) = ji29 := hji29
        have hji29z : (IntKind.u64.wrap (ji16)) ≤ 64 → (IntKind.u64.wrap (1 * 2 ^ (IntKind.u64.wrap (ji16)).toNat)) = ji29 := shl_small hji29
        have hji29u : (IntKind.u64.wrap (2 ^ min (IntKind.u64.wrap (ji16)).toNat 64)) = ji29 := by have h_ := hji29_; rw [Int.one_mul] at h_; exact h_
        have hji29v : (IntKind.u64.wrap (ji16)) ≤ 64 → (IntKind.u64.wrap (2 ^ (IntKind.u64.wrap (ji16)).toNat)) = ji29 := fun hle_ => by have h_ := hji29z hle_; rw [Int.one_mul] at h_; exact h_
        obtain ⟨ji30, hji30⟩ : ∃ j_ : Int, (Go.bits .and .u64 (ji15) (IntKind.u64.wrap ((ji29) - 1))) = j_ := ⟨_, rfl⟩
        replace H : ((round_pack.f k a0 a1 ((shr .u64 (ji15) (IntKind.u64.wrap (ji16))) / 2) (wrap64 ((wrap64 ((wrap64 (a3 - t422)) + (ji16))) + 1)) ((Go.bits .and .u64 (shr .u64 (ji15) (IntKind.u64.wrap (ji16))) 1) == 1) ((ji30) != 0)).bind fun bt427 => (some (bt427.1, bt427.2))) = some (r1, r2) := by first | (rw [hji30] at H; exact H) | (simp only [hji30] at H ⊢; exact H)
        (try rw [hji30] at A6)
        (try rw [hji30] at A8)
        (try rw [hji30] at A13)
        have c31b0 := eq_true (of_decide_eq_true (by first | (with_reducible assumption) | assumption) : 0 ≤ (IntKind.u64.wrap (ji16)))
        obtain ⟨ji32, hji32⟩ : ∃ j_ : Int, (shr .u64 (ji15) (IntKind.u64.wrap (ji16))) = j_ := ⟨_, rfl⟩
        replace H : ((round_pack.f k a0 a1 ((ji32) / 2) (wrap64 ((wrap64 ((wrap64 (a3 - t422)) + (ji16))) + 1)) ((Go.bits .and .u64 (ji32) 1) == 1) ((ji30) != 0)).bind fun bt427 => (some (bt427.1, bt427.2))) = some (r1, r2) := by first | (rw [hji32] at H; exact H) | (simp only [hji32] at H ⊢; exact H)
        (try rw [hji32] at A6)
        (try rw [hji32] at A8)
        (try rw [hji32] at A13)
        have hji32_ : ((ji15) / 2 ^ min (IntKind.u64.wrap (ji16)).toNat 64) = ji32 := hji32
        have hji32z : (IntKind.u64.wrap (ji16)) ≤ 64 → ((ji15) / 2 ^ (IntKind.u64.wrap (ji16)).toNat) = ji32 := shr_small hji32
        obtain ⟨ji33, hji33⟩ : ∃ j_ : Int, (Go.bits .and .u64 (ji32) 1) = j_ := ⟨_, rfl⟩
        replace H : ((round_pack.f k a0 a1 ((ji32) / 2) (wrap64 ((wrap64 ((wrap64 (a3 - t422)) + (ji16))) + 1)) ((ji33) == 1) ((ji30) != 0)).bind fun bt427 => (some (bt427.1, bt427.2))) = some (r1, r2) := by first | (rw [hji33] at H; exact H) | (simp only [hji33] at H ⊢; exact H)
        (try rw [hji33] at A6)
        (try rw [hji33] at A8)
        (try rw [hji33] at A13)
        replace H := Option.bind_eq_some_iff.mp H
        obtain ⟨⟨t427, t428⟩, A340, H⟩ := H
        replace H : (some (t427, t428)) = some (r1, r2) := H
        have A34 := Aside0.mk A340
        clear A340
        simp only [Option.some.injEq, Prod.mk.injEq] at H
        obtain ⟨rfl, rfl⟩ := H
        go_enter Tryd.func13, Tryd.ntmps13
        go_wp2_with (first | ((with_reducible refine gate_callee (f := 23) rfl ?_); refine goesL_ (some 19) rfl rfl Tryd.func23 (by kernel_rfl) rfl #[.int .i64 a0] rfl (by (try simp only [List.map_toArray, List.map_cons, List.map_nil]); first | done | rfl | (simp only [List.length_drop, List.length_take]; rfl)) ?_; (with_reducible refine (round_format.calls a0 t416 t417 true _ A6.out).mono ?_); rintro e w' ⟨rfl, ⟨nd, rfl⟩⟩; refine ⟨_, rfl, ?_⟩) | ((with_reducible refine gate_callee (f := 25) rfl ?_); refine goesL_ (some 29) rfl rfl Tryd.func25 (by kernel_rfl) rfl #[.int .i64 a3] rfl (by (try simp only [List.map_toArray, List.map_cons, List.map_nil]); first | done | rfl | (simp only [List.length_drop, List.length_take]; rfl)) ?_; (with_reducible refine (round_far.calls a3 false _ A8.out).mono ?_); rintro e w' ⟨rfl, ⟨nd, rfl⟩⟩; refine ⟨_, rfl, ?_⟩) | ((with_reducible refine gate_callee (f := 37) rfl ?_); refine goesL_ (some 40) rfl rfl Tryd.func37 (by kernel_rfl) rfl #[.int .u64 a2] rfl (by (try simp only [List.map_toArray, List.map_cons, List.map_nil]); first | done | rfl | (simp only [List.length_drop, List.length_take]; rfl)) ?_; (with_reducible refine (bits_LeadingZeros64.calls a2 t422 _ A13.out).mono ?_); rintro e w35 ⟨rfl, hb⟩; refine ⟨_, rfl, ?_⟩; have n0_ := Aside0.mk (below_step (by repeat (first | (with_reducible first | exact HB.out | apply below_alloc | apply pw_below_drewN | apply below_drew1) | exact HB.out)) hb); clear HB; have HB := n0_; clear n0_; (try clear hb); (try clear hb2); (try clear hk); (try clear hi)) | ((with_reducible refine gate_callee (f := 33) rfl ?_); refine goesL_ (some 89) rfl rfl Tryd.func33 (by kernel_rfl) rfl #[.int .i64 a0, .bool a1, .int .u64 ((ji32) / 2), .int .i64 (wrap64 ((wrap64 ((wrap64 (a3 - t422)) + (ji16))) + 1)), .bool ((ji33) == 1), .bool ((ji30) != 0)] rfl (by (try simp only [List.map_toArray, List.map_cons, List.map_nil]); first | done | (simp only [hji16, hji30, hji32, hji33]; rfl) | rfl | (simp only [List.length_drop, List.length_take]; rfl)) ?_; (with_reducible refine (round_pack.calls k a0 a1 ((ji32) / 2) (wrap64 ((wrap64 ((wrap64 (a3 - t422)) + (ji16))) + 1)) ((ji33) == 1) ((ji30) != 0) t427 t428 _ ?side1 A34.out).mono ?_); (case side1 => exact Laid_DB64.of_below HL_DB64.out (by repeat (first | (with_reducible first | exact HB.out | apply below_alloc | apply pw_below_drewN | apply below_drew1) | exact HB.out))); rintro e w36 ⟨rfl, hb⟩; refine ⟨_, rfl, ?_⟩; have n0_ := Aside0.mk (below_step (by repeat (first | (with_reducible first | exact HB.out | apply below_alloc | apply pw_below_drewN | apply below_drew1) | exact HB.out)) hb); clear HB; have HB := n0_; clear n0_; (try clear hb); (try clear hb2); (try clear hk); (try clear hi); (try simp only [errW_none, errW_some])))
        go_ret2
        exact ⟨by first | rfl | (simp [errW_none, errW_some] <;> rfl) | (simp only [← hji15, ← hji16, ← hji29, ← hji30, ← hji32, ← hji33]; first | rfl | (simp [errW_none, errW_some] <;> rfl)) | (simp [*, errW_none, errW_some] <;> rfl), by repeat (first | (with_reducible first | exact HB.out | apply below_alloc | apply pw_below_drewN | apply below_drew1) | exact HB.out)⟩
       ·rw [if_neg c28] at H
        exact absurd H (by simp)
    ·rw [if_neg c14] at H
     exact absurd H (by simp)
 ·replace c7 := Bool.eq_false_iff.mpr c7
  subst c7
  have H1 : (some (0, some 5)) = some (r1, r2) := by rw [if_neg (show ¬ (false = true) by decide)] at H; exact H
  clear H
  have H := H1
  clear H1
  simp only [Option.some.injEq, Prod.mk.injEq] at H
  obtain ⟨rfl, rfl⟩ := H
  go_enter Tryd.func13, Tryd.ntmps13
  go_wp2_with (first | ((with_reducible refine gate_callee (f := 23) rfl ?_); refine goesL_ (some 19) rfl rfl Tryd.func23 (by kernel_rfl) rfl #[.int .i64 a0] rfl (by (try simp only [List.map_toArray, List.map_cons, List.map_nil]); first | done | rfl | (simp only [List.length_drop, List.length_take]; rfl)) ?_; (with_reducible refine (round_format.calls a0 t416 t417 false _ A6.out).mono ?_); rintro e w' ⟨rfl, ⟨nd, rfl⟩⟩; refine ⟨_, rfl, ?_⟩))
  go_ret2
  exact ⟨by first | rfl | (simp [errW_none, errW_some] <;> rfl) | (simp [*, errW_none, errW_some] <;> rfl), by repeat (first | (with_reducible first | exact HB.out | apply below_alloc | apply pw_below_drewN | apply below_drew1) | exact HB.out)⟩

/-! ### numerallaw12_works: function 12 -/
def numerallaw12_works.f (k : Nat)  : Option (Bool) := (round_Ratio.f k 64 false (([1] : List Int)) (([3] : List Int)) 0).bind fun bt435 => ((round_Whole.f k 64 false 9007199254740993 0 false).bind fun bt437 => ((round_Whole.f k 64 false 9007199254740993 0 true).bind fun bt439 => ((round_Whole.f k 32 true 1 128 false).bind fun bt441 => (if bt435.1 = 4599676419421066581 then (if bt435.2.isNone = true then (if bt437.1 = 4845873199050653696 then (if bt437.2.isNone = true then (if bt439.1 = 4845873199050653697 then (if bt439.2.isNone = true then (if bt441.1 = 4286578688 then ((numerallaw12_num.f bt441.2).bind fun t446 => (some (t446 == 4))) else (none)) else (none)) else (none)) else (none)) else (none)) else (none)) else (none)))))
theorem numerallaw12_works.mono : ∀ k, LeO (numerallaw12_works.f k ) (numerallaw12_works.f (k + 1) ) := by
 intro  k
 unfold numerallaw12_works.f
 repeat' first
   | (with_reducible exact round_Ratio.mono _ _ _ _ _ _)
   | (with_reducible exact round_Whole.mono _ _ _ _ _ _)
   | (with_reducible exact LeO.refl _)
   | (with_reducible exact LeO.none _)
   | (with_reducible refine LeO.ite ?_ ?_)
   | (with_reducible refine LeO.bind ?_ (fun _ => ?_))
   | exact round_Ratio.mono _ _ _ _ _ _
   | exact round_Whole.mono _ _ _ _ _ _
   | exact LeO.none _
   | refine LeO.ite ?_ ?_
   | refine LeO.bind ?_ (fun _ => ?_)
set_option maxHeartbeats 8000000 in
set_option maxRecDepth 100000 in
theorem numerallaw12_works.calls (k : Nat)  (r : Bool) (w : World) (hl_DB64 : Laid_DB64 w) (h : numerallaw12_works.f k  = some r) :
  Calls Tryd.prog 12 #[] w fun e w' => e = .returned (.bool r) ∧ Below w.heap.size w w' := by
 have hu29 := Tryd.underlying29
 have hu55 := Tryd.underlying55
 have HB := Aside0.mk (Below.refl w.heap.size w)
 have HL_DB64 := Aside0.mk hl_DB64
 clear hl_DB64
 have H : ((round_Ratio.f k 64 false (([1] : List Int)) (([3] : List Int)) 0).bind fun bt435 => ((round_Whole.f k 64 false 9007199254740993 0 false).bind fun bt437 => ((round_Whole.f k 64 false 9007199254740993 0 true).bind fun bt439 => ((round_Whole.f k 32 true 1 128 false).bind fun bt441 => (if bt435.1 = 4599676419421066581 then (if bt435.2.isNone = true then (if bt437.1 = 4845873199050653696 then (if bt437.2.isNone = true then (if bt439.1 = 4845873199050653697 then (if bt439.2.isNone = true then (if bt441.1 = 4286578688 then ((numerallaw12_num.f bt441.2).bind fun t446 => (some (t446 == 4))) else (none)) else (none)) else (none)) else (none)) else (none)) else (none)) else (none)))))) = some r := h
 clear h
 obtain ⟨y429, hy429⟩ : ∃ y_ : List Int, y_ = (([1] : List Int)) := ⟨_, rfl⟩
 replace H : ((round_Ratio.f k 64 false y429 (([3] : List Int)) 0).bind fun bt435 => ((round_Whole.f k 64 false 9007199254740993 0 false).bind fun bt437 => ((round_Whole.f k 64 false 9007199254740993 0 true).bind fun bt439 => ((round_Whole.f k 32 true 1 128 false).bind fun bt441 => (if bt435.1 = 4599676419421066581 then (if bt435.2.isNone = true then (if bt437.1 = 4845873199050653696 then (if bt437.2.isNone = true then (if bt439.1 = 4845873199050653697 then (if bt439.2.isNone = true then (if bt441.1 = 4286578688 then ((numerallaw12_num.f bt441.2).bind fun t446 => (some (t446 == 4))) else (none)) else (none)) else (none)) else (none)) else (none)) else (none)) else (none)))))) = some r := by first | (rw [hy429]; with_reducible exact H) | (have H2_ := (Option.bind_some _ _).symm.trans H; rw [hy429]; with_reducible exact H2_) | (have H2_ := (Option.bind_some _ _).symm.trans H; with_reducible exact H2_) | with_reducible exact H | (rw [hy429]; exact H) | exact H
 have Ny429 := Aside0.mk hy429
 clear hy429
 obtain ⟨y432, hy432⟩ : ∃ y_ : List Int, y_ = (([3] : List Int)) := ⟨_, rfl⟩
 replace H : ((round_Ratio.f k 64 false y429 y432 0).bind fun bt435 => ((round_Whole.f k 64 false 9007199254740993 0 false).bind fun bt437 => ((round_Whole.f k 64 false 9007199254740993 0 true).bind fun bt439 => ((round_Whole.f k 32 true 1 128 false).bind fun bt441 => (if bt435.1 = 4599676419421066581 then (if bt435.2.isNone = true then (if bt437.1 = 4845873199050653696 then (if bt437.2.isNone = true then (if bt439.1 = 4845873199050653697 then (if bt439.2.isNone = true then (if bt441.1 = 4286578688 then ((numerallaw12_num.f bt441.2).bind fun t446 => (some (t446 == 4))) else (none)) else (none)) else (none)) else (none)) else (none)) else (none)) else (none)))))) = some r := by first | (rw [hy432]; with_reducible exact H) | (have H2_ := (Option.bind_some _ _).symm.trans H; rw [hy432]; with_reducible exact H2_) | (have H2_ := (Option.bind_some _ _).symm.trans H; with_reducible exact H2_) | with_reducible exact H | (rw [hy432]; exact H) | exact H
 have Ny432 := Aside0.mk hy432
 clear hy432
 replace H := Option.bind_eq_some_iff.mp H
 obtain ⟨⟨t435, t436⟩, A10, H⟩ := H
 replace H : ((round_Whole.f k 64 false 9007199254740993 0 false).bind fun bt437 => ((round_Whole.f k 64 false 9007199254740993 0 true).bind fun bt439 => ((round_Whole.f k 32 true 1 128 false).bind fun bt441 => (if t435 = 4599676419421066581 then (if t436.isNone = true then (if bt437.1 = 4845873199050653696 then (if bt437.2.isNone = true then (if bt439.1 = 4845873199050653697 then (if bt439.2.isNone = true then (if bt441.1 = 4286578688 then ((numerallaw12_num.f bt441.2).bind fun t446 => (some (t446 == 4))) else (none)) else (none)) else (none)) else (none)) else (none)) else (none)) else (none))))) = some r := H
 have A1 := Aside0.mk A10
 clear A10
 replace H := Option.bind_eq_some_iff.mp H
 obtain ⟨⟨t437, t438⟩, A20, H⟩ := H
 replace H : ((round_Whole.f k 64 false 9007199254740993 0 true).bind fun bt439 => ((round_Whole.f k 32 true 1 128 false).bind fun bt441 => (if t435 = 4599676419421066581 then (if t436.isNone = true then (if t437 = 4845873199050653696 then (if t438.isNone = true then (if bt439.1 = 4845873199050653697 then (if bt439.2.isNone = true then (if bt441.1 = 4286578688 then ((numerallaw12_num.f bt441.2).bind fun t446 => (some (t446 == 4))) else (none)) else (none)) else (none)) else (none)) else (none)) else (none)) else (none)))) = some r := H
 have A2 := Aside0.mk A20
 clear A20
 replace H := Option.bind_eq_some_iff.mp H
 obtain ⟨⟨t439, t440⟩, A30, H⟩ := H
 replace H : ((round_Whole.f k 32 true 1 128 false).bind fun bt441 => (if t435 = 4599676419421066581 then (if t436.isNone = true then (if t437 = 4845873199050653696 then (if t438.isNone = true then (if t439 = 4845873199050653697 then (if t440.isNone = true then (if bt441.1 = 4286578688 then ((numerallaw12_num.f bt441.2).bind fun t446 => (some (t446 == 4))) else (none)) else (none)) else (none)) else (none)) else (none)) else (none)) else (none))) = some r := H
 have A3 := Aside0.mk A30
 clear A30
 replace H := Option.bind_eq_some_iff.mp H
 obtain ⟨⟨t441, t442⟩, A40, H⟩ := H
 replace H : (if t435 = 4599676419421066581 then (if t436.isNone = true then (if t437 = 4845873199050653696 then (if t438.isNone = true then (if t439 = 4845873199050653697 then (if t440.isNone = true then (if t441 = 4286578688 then ((numerallaw12_num.f t442).bind fun t446 => (some (t446 == 4))) else (none)) else (none)) else (none)) else (none)) else (none)) else (none)) else (none)) = some r := H
 have A4 := Aside0.mk A40
 clear A40
 by_cases c5 : t435 = 4599676419421066581
 ·rw [if_pos c5] at H
  have c5b0 : (t435 == 4599676419421066581) = true := beq_iff_eq.mpr c5
  have c5b1 : (t435 != 4599676419421066581) = false := bne_eq_false_iff_eq.mpr c5
  clear c5
  rcases t436 with _ | q443
  ·have H1 : (if t437 = 4845873199050653696 then (if t438.isNone = true then (if t439 = 4845873199050653697 then (if t440.isNone = true then (if t441 = 4286578688 then ((numerallaw12_num.f t442).bind fun t446 => (some (t446 == 4))) else (none)) else (none)) else (none)) else (none)) else (none)) = some r := by rw [if_pos (show (none : Option Int).isNone = true by rfl)] at H; exact H
   clear H
   have H := H1
   clear H1
   try simp only [errW_none, errW_some]
   by_cases c6 : t437 = 4845873199050653696
   ·rw [if_pos c6] at H
    have c6b0 : (t437 == 4845873199050653696) = true := beq_iff_eq.mpr c6
    have c6b1 : (t437 != 4845873199050653696) = false := bne_eq_false_iff_eq.mpr c6
    clear c6
    rcases t438 with _ | q444
    ·have H1 : (if t439 = 4845873199050653697 then (if t440.isNone = true then (if t441 = 4286578688 then ((numerallaw12_num.f t442).bind fun t446 => (some (t446 == 4))) else (none)) else (none)) else (none)) = some r := by rw [if_pos (show (none : Option Int).isNone = true by rfl)] at H; exact H
     clear H
     have H := H1
     clear H1
     try simp only [errW_none, errW_some]
     by_cases c7 : t439 = 4845873199050653697
     ·rw [if_pos c7] at H
      have c7b0 : (t439 == 4845873199050653697) = true := beq_iff_eq.mpr c7
      have c7b1 : (t439 != 4845873199050653697) = false := bne_eq_false_iff_eq.mpr c7
      clear c7
      rcases t440 with _ | q445
      ·have H1 : (if t441 = 4286578688 then ((numerallaw12_num.f t442).bind fun t446 => (some (t446 == 4))) else (none)) = some r := by rw [if_pos (show (none : Option Int).isNone = true by rfl)] at H; exact H
       clear H
       have H := H1
       clear H1
       try simp only [errW_none, errW_some]
       by_cases c8 : t441 = 4286578688
       ·rw [if_pos c8] at H
        have c8b0 : (t441 == 4286578688) = true := beq_iff_eq.mpr c8
        have c8b1 : (t441 != 4286578688) = false := bne_eq_false_iff_eq.mpr c8
        clear c8
        replace H := Option.bind_eq_some_iff.mp H
        obtain ⟨t446, A90, H⟩ := H
        replace H : (some (t446 == 4)) = some r := H
        have A9 := Aside0.mk A90
        clear A90
        obtain rfl := Option.some.inj H
        go_enter Tryd.func12, Tryd.ntmps12
        go_wp2_with (first | ((with_reducible refine gate_dst (N := 10) rfl ?_); refine Kd.R_lit (Kd.int .u64) _ 27 ?hg (N := 10) ?hd (xs := ([1] : List Int)) (inner := [.int .u64 1]) (ok := fun _ => True) (okp := fun _ => True) ?hr ?hp (fun _ hk => hk) trivial (Below.refl _ _) (Nat.le_refl _) (by simp) ?_; (case hd => rfl); (case hg => rfl); (case hr => first | (go_simp; done) | (go_simp; rfl)); (case hp => exact (Reps.one (show Kd.M (Kd.int .u64) _ _ _ 1 [.int .u64 1] from rfl) (Reps.none _ _))); intro v430 w10 ho11 hb hg_ hnew_; clear hg_ hnew_; (first | rw [← Ny429.out] at ho11 | (simp only [Int.reduceToNat] at ho11; rw [← Ny429.out] at ho11)); have n0_ := Aside0.mk (Kd.R_lower ho11 (below_size (by repeat (first | (with_reducible first | exact HB.out | apply below_alloc | apply pw_below_drewN | apply below_drew1) | exact HB.out)))); have n1_ := Aside0.mk (below_step (by repeat (first | (with_reducible first | exact HB.out | apply below_alloc | apply pw_below_drewN | apply below_drew1) | exact HB.out)) hb); clear HB; have HO431 := n0_; have HB := n1_; clear n0_ n1_; clear hb ho11) | ((with_reducible refine gate_dst (N := 11) rfl ?_); refine Kd.R_lit (Kd.int .u64) _ 27 ?hg (N := 11) ?hd (xs := ([3] : List Int)) (inner := [.int .u64 3]) (ok := fun _ => True) (okp := fun _ => True) ?hr ?hp (fun _ hk => hk) trivial (Below.refl _ _) (Nat.le_refl _) (by simp) ?_; (case hd => rfl); (case hg => rfl); (case hr => first | (go_simp; done) | (go_simp; rfl)); (case hp => exact (Reps.one (show Kd.M (Kd.int .u64) _ _ _ 3 [.int .u64 3] from rfl) (Reps.none _ _))); intro v433 w12 ho13 hb hg_ hnew_; clear hg_ hnew_; (first | rw [← Ny432.out] at ho13 | (simp only [Int.reduceToNat] at ho13; rw [← Ny432.out] at ho13)); have n0_ := Aside0.mk (Kd.R_elder' (by (with_reducible repeat (first | apply Kd.R_alloc | apply Kd.R_drewN | apply Kd.R_drew)); exact HO431.out) (Kd.R_base ho13) hb); have n1_ := Aside0.mk (Kd.R_lower (Kd.R_new' ho13 (Kd.R_lt (by (with_reducible repeat (first | apply Kd.R_alloc | apply Kd.R_drewN | apply Kd.R_drew)); exact HO431.out))) (below_size (by repeat (first | (with_reducible first | exact HB.out | apply below_alloc | apply pw_below_drewN | apply below_drew1) | exact HB.out)))); have n2_ := Aside0.mk (below_step (by repeat (first | (with_reducible first | exact HB.out | apply below_alloc | apply pw_below_drewN | apply below_drew1) | exact HB.out)) hb); clear HO431; clear HB; have HO431 := n0_; have HO434 := n1_; have HB := n2_; clear n0_ n1_ n2_; clear hb ho13; obtain ⟨Ao14, co14, eo14⟩ := Kd.R_slice HO431.out; subst eo14; obtain ⟨Ao15, co15, eo15⟩ := Kd.R_slice HO434.out; subst eo15) | ((with_reducible refine gate_callee (f := 8) rfl ?_); refine goesL_ (some 12) rfl rfl Tryd.func8 (by kernel_rfl) rfl #[.int .i64 64, .bool false, .slice Ao14 y429.length co14, .slice Ao15 y432.length co15, .int .i64 0] rfl (by (try simp only [List.map_toArray, List.map_cons, List.map_nil]); first | done | rfl | (simp only [List.length_drop, List.length_take]; rfl)) ?_; (with_reducible refine (round_Ratio.calls k 64 false (fun k_ => some k_ = (.slice Ao14 y429.length co14 : Value).ownBlock) _ _ y429 (fun k_ => some k_ = (.slice Ao15 y432.length co15 : Value).ownBlock) _ _ y432 0 t435 none _ ?side1 ?side2 ?side3 A1.out).mono ?_); (case side1 => exact Kd.R_V (Kd.R_tight rfl (HO431.out))); (case side2 => exact Kd.R_V (Kd.R_tight rfl (HO434.out))); (case side3 => exact Laid_DB64.of_below HL_DB64.out (by repeat (first | (with_reducible first | exact HB.out | apply below_alloc | apply pw_below_drewN | apply below_drew1) | exact HB.out))); rintro e w16 ⟨rfl, hb⟩; refine ⟨_, rfl, ?_⟩; have n0_ := Aside0.mk (Kd.R_below (by (with_reducible repeat (first | apply Kd.R_alloc | apply Kd.R_drewN | apply Kd.R_drew)); exact HO431.out) hb); have n1_ := Aside0.mk (Kd.R_below (by (with_reducible repeat (first | apply Kd.R_alloc | apply Kd.R_drewN | apply Kd.R_drew)); exact HO434.out) hb); have n2_ := Aside0.mk (below_step (by repeat (first | (with_reducible first | exact HB.out | apply below_alloc | apply pw_below_drewN | apply below_drew1) | exact HB.out)) hb); clear HO431; clear HO434; clear HB; have HO431 := n0_; have HO434 := n1_; have HB := n2_; clear n0_ n1_ n2_; (try clear hb); (try clear hb2); (try clear hk); (try clear hi); (try simp only [errW_none, errW_some])) | ((with_reducible refine gate_callee (f := 13) rfl ?_); refine goesL_ (some 16) rfl rfl Tryd.func13 (by kernel_rfl) rfl #[.int .i64 64, .bool false, .int .u64 9007199254740993, .int .i64 0, .bool false] rfl (by (try simp only [List.map_toArray, List.map_cons, List.map_nil]); first | done | rfl | (simp only [List.length_drop, List.length_take]; rfl)) ?_; (with_reducible refine (round_Whole.calls k 64 false 9007199254740993 0 false t437 none _ ?side1 A2.out).mono ?_); (case side1 => exact Laid_DB64.of_below HL_DB64.out (by repeat (first | (with_reducible first | exact HB.out | apply below_alloc | apply pw_below_drewN | apply below_drew1) | exact HB.out))); rintro e w17 ⟨rfl, hb⟩; refine ⟨_, rfl, ?_⟩; have n0_ := Aside0.mk (Kd.R_below (by (with_reducible repeat (first | apply Kd.R_alloc | apply Kd.R_drewN | apply Kd.R_drew)); exact HO431.out) hb); have n1_ := Aside0.mk (Kd.R_below (by (with_reducible repeat (first | apply Kd.R_alloc | apply Kd.R_drewN | apply Kd.R_drew)); exact HO434.out) hb); have n2_ := Aside0.mk (below_step (by repeat (first | (with_reducible first | exact HB.out | apply below_alloc | apply pw_below_drewN | apply below_drew1) | exact HB.out)) hb); clear HO431; clear HO434; clear HB; have HO431 := n0_; have HO434 := n1_; have HB := n2_; clear n0_ n1_ n2_; (try clear hb); (try clear hb2); (try clear hk); (try clear hi); (try simp only [errW_none, errW_some])) | ((with_reducible refine gate_callee (f := 13) rfl ?_); refine goesL_ (some 20) rfl rfl Tryd.func13 (by kernel_rfl) rfl #[.int .i64 64, .bool false, .int .u64 9007199254740993, .int .i64 0, .bool true] rfl (by (try simp only [List.map_toArray, List.map_cons, List.map_nil]); first | done | rfl | (simp only [List.length_drop, List.length_take]; rfl)) ?_; (with_reducible refine (round_Whole.calls k 64 false 9007199254740993 0 true t439 none _ ?side1 A3.out).mono ?_); (case side1 => exact Laid_DB64.of_below HL_DB64.out (by repeat (first | (with_reducible first | exact HB.out | apply below_alloc | apply pw_below_drewN | apply below_drew1) | exact HB.out))); rintro e w18 ⟨rfl, hb⟩; refine ⟨_, rfl, ?_⟩; have n0_ := Aside0.mk (Kd.R_below (by (with_reducible repeat (first | apply Kd.R_alloc | apply Kd.R_drewN | apply Kd.R_drew)); exact HO431.out) hb); have n1_ := Aside0.mk (Kd.R_below (by (with_reducible repeat (first | apply Kd.R_alloc | apply Kd.R_drewN | apply Kd.R_drew)); exact HO434.out) hb); have n2_ := Aside0.mk (below_step (by repeat (first | (with_reducible first | exact HB.out | apply below_alloc | apply pw_below_drewN | apply below_drew1) | exact HB.out)) hb); clear HO431; clear HO434; clear HB; have HO431 := n0_; have HO434 := n1_; have HB := n2_; clear n0_ n1_ n2_; (try clear hb); (try clear hb2); (try clear hk); (try clear hi); (try simp only [errW_none, errW_some])) | ((with_reducible refine gate_callee (f := 13) rfl ?_); refine goesL_ (some 24) rfl rfl Tryd.func13 (by kernel_rfl) rfl #[.int .i64 32, .bool true, .int .u64 1, .int .i64 128, .bool false] rfl (by (try simp only [List.map_toArray, List.map_cons, List.map_nil]); first | done | rfl | (simp only [List.length_drop, List.length_take]; rfl)) ?_; (with_reducible refine (round_Whole.calls k 32 true 1 128 false t441 t442 _ ?side1 A4.out).mono ?_); (case side1 => exact Laid_DB64.of_below HL_DB64.out (by repeat (first | (with_reducible first | exact HB.out | apply below_alloc | apply pw_below_drewN | apply below_drew1) | exact HB.out))); rintro e w19 ⟨rfl, hb⟩; refine ⟨_, rfl, ?_⟩; have n0_ := Aside0.mk (Kd.R_below (by (with_reducible repeat (first | apply Kd.R_alloc | apply Kd.R_drewN | apply Kd.R_drew)); exact HO431.out) hb); have n1_ := Aside0.mk (Kd.R_below (by (with_reducible repeat (first | apply Kd.R_alloc | apply Kd.R_drewN | apply Kd.R_drew)); exact HO434.out) hb); have n2_ := Aside0.mk (below_step (by repeat (first | (with_reducible first | exact HB.out | apply below_alloc | apply pw_below_drewN | apply below_drew1) | exact HB.out)) hb); clear HO431; clear HO434; clear HB; have HO431 := n0_; have HO434 := n1_; have HB := n2_; clear n0_ n1_ n2_; (try clear hb); (try clear hb2); (try clear hk); (try clear hi); (try simp only [errW_none, errW_some]); have CA9 := fun W => numerallaw12_num.calls t442 t446 W A9.out; try simp only [errW_none, errW_some] at CA9) | (go_at_call 10; (with_reducible refine (CA9 _).mono ?_); rintro e w' ⟨rfl, ⟨nd, rfl⟩⟩))
        go_ret
        exact ⟨by first | rfl | (simp [errW_none, errW_some] <;> rfl) | (simp [*, errW_none, errW_some] <;> rfl), by repeat (first | (with_reducible first | exact HB.out | apply below_alloc | apply pw_below_drewN | apply below_drew1) | exact HB.out)⟩
       ·rw [if_neg c8] at H
        exact absurd H (by simp)
      ·have H1 : (none) = some r := by rw [if_neg (show ¬ (some q445).isNone = true by simp)] at H; exact H
       clear H
       have H := H1
       clear H1
       try simp only [errW_none, errW_some]
       exact absurd H (by simp)
     ·rw [if_neg c7] at H
      exact absurd H (by simp)
    ·have H1 : (none) = some r := by rw [if_neg (show ¬ (some q444).isNone = true by simp)] at H; exact H
     clear H
     have H := H1
     clear H1
     try simp only [errW_none, errW_some]
     exact absurd H (by simp)
   ·rw [if_neg c6] at H
    exact absurd H (by simp)
  ·have H1 : (none) = some r := by rw [if_neg (show ¬ (some q443).isNone = true by simp)] at H; exact H
   clear H
   have H := H1
   clear H1
   try simp only [errW_none, errW_some]
   exact absurd H (by simp)
 ·rw [if_neg c5] at H
  exact absurd H (by simp)

/-! ### numerallaw12_RoundRatios: function 3 -/
def numerallaw12_RoundRatios.f (k : Nat) (a0_0 : Int) (a0_1 : Bool) (l0_2 : List Int) (l0_3 : List Int) (a0_4 : Int) : Option (Bool) := (numerallaw12_twin.f l0_2).bind fun t448 => ((numerallaw12_twin.f l0_3).bind fun t451 => ((round_Ratio.f k a0_0 a0_1 t448 t451 a0_4).bind fun bt454 => ((numeralref12_Ratio.f k a0_0 a0_1 l0_2 l0_3 a0_4).bind fun bt456 => (if bt454.1 = bt456.1 then ((numerallaw12_num.f bt454.2).bind fun t458 => (if t458 = bt456.2 then ((numerallaw12_same.f k t448 l0_2).bind fun t459 => (if t459 = true then ((numerallaw12_same.f k t451 l0_3).bind fun t460 => (if t460 = true then ((numerallaw12_works.f k).bind fun t461 => (some t461)) else (none))) else (none))) else (none))) else (none)))))
def numerallaw12_RoundRatios.T1 : Bool × List (List Nat × List Nat) := (true, [([], []), ([0], [0]), ([1], [1]), ([], []), ([3], [3]), ([4, 2], [4]), ([2, 5, 0, 1, 2], [2]), ([5, 6, 0, 1, 2, 3, 4, 5, 6], [5])])
def numerallaw12_RoundRatios.B1 : List Nat := [0, 1, 3, 0, 8, 31, 63, 127]
theorem numerallaw12_RoundRatios.tab1 : rtab .any (opsOf Tryd.f3 1) = numerallaw12_RoundRatios.T1 := by kernel_rfl
theorem numerallaw12_RoundRatios.bits1 : waitsOk numerallaw12_RoundRatios.T1.2 numerallaw12_RoundRatios.B1 = true := by kernel_rfl
set_option maxHeartbeats 8000000 in
set_option maxRecDepth 100000 in
theorem numerallaw12_RoundRatios.calls (k : Nat) (a0_0 : Int) (a0_1 : Bool) (A0_2 : Option Addr) (c0_2 : Nat) (l0_2 : List Int) (A0_3 : Option Addr) (c0_3 : Nat) (l0_3 : List Int) (a0_4 : Int) (r : Bool) (w : World) (hr0_2 : Kd.C (Kd.int .u64) w A0_2 l0_2.length l0_2) (hc0_2 : l0_2.length ≤ c0_2) (hr0_3 : Kd.C (Kd.int .u64) w A0_3 l0_3.length l0_3) (hc0_3 : l0_3.length ≤ c0_3) (hl_DB64 : Laid_DB64 w) (h : numerallaw12_RoundRatios.f k a0_0 a0_1 l0_2 l0_3 a0_4 = some r) :
  Calls Tryd.prog 3 #[.agg #[.int .i64 a0_0, .bool a0_1, .slice A0_2 l0_2.length c0_2, .slice A0_3 l0_3.length c0_3, .int .i64 a0_4]] w fun e w' => e = .returned (.bool r) ∧ Below w.heap.size w w' := by
 have hu24 := Tryd.underlying24
 have HR0_2 := Aside0.mk hr0_2
 have HC0_2 := Aside0.mk hc0_2
 clear hr0_2 hc0_2
 have HR0_3 := Aside0.mk hr0_3
 have HC0_3 := Aside0.mk hc0_3
 clear hr0_3 hc0_3
 have HB := Aside0.mk (Below.refl w.heap.size w)
 have HL_DB64 := Aside0.mk hl_DB64
 clear hl_DB64
 have H : ((numerallaw12_twin.f l0_2).bind fun t448 => ((numerallaw12_twin.f l0_3).bind fun t451 => ((round_Ratio.f k a0_0 a0_1 t448 t451 a0_4).bind fun bt454 => ((numeralref12_Ratio.f k a0_0 a0_1 l0_2 l0_3 a0_4).bind fun bt456 => (if bt454.1 = bt456.1 then ((numerallaw12_num.f bt454.2).bind fun t458 => (if t458 = bt456.2 then ((numerallaw12_same.f k t448 l0_2).bind fun t459 => (if t459 = true then ((numerallaw12_same.f k t451 l0_3).bind fun t460 => (if t460 = true then ((numerallaw12_works.f k).bind fun t461 => (some t461)) else (none))) else (none))) else (none))) else (none)))))) = some r := h
 clear h
 replace H := Option.bind_eq_some_iff.mp H
 obtain ⟨t448, A20, H⟩ := H
 replace H : ((numerallaw12_twin.f l0_3).bind fun t451 => ((round_Ratio.f k a0_0 a0_1 t448 t451 a0_4).bind fun bt454 => ((numeralref12_Ratio.f k a0_0 a0_1 l0_2 l0_3 a0_4).bind fun bt456 => (if bt454.1 = bt456.1 then ((numerallaw12_num.f bt454.2).bind fun t458 => (if t458 = bt456.2 then ((numerallaw12_same.f k t448 l0_2).bind fun t459 => (if t459 = true then ((numerallaw12_same.f k t451 l0_3).bind fun t460 => (if t460 = true then ((numerallaw12_works.f k).bind fun t461 => (some t461)) else (none))) else (none))) else (none))) else (none))))) = some r := H
 have A2 := Aside0.mk A20
 clear A20
 replace H := Option.bind_eq_some_iff.mp H
 obtain ⟨t451, A30, H⟩ := H
 replace H : ((round_Ratio.f k a0_0 a0_1 t448 t451 a0_4).bind fun bt454 => ((numeralref12_Ratio.f k a0_0 a0_1 l0_2 l0_3 a0_4).bind fun bt456 => (if bt454.1 = bt456.1 then ((numerallaw12_num.f bt454.2).bind fun t458 => (if t458 = bt456.2 then ((numerallaw12_same.f k t448 l0_2).bind fun t459 => (if t459 = true then ((numerallaw12_same.f k t451 l0_3).bind fun t460 => (if t460 = true then ((numerallaw12_works.f k).bind fun t461 => (some t461)) else (none))) else (none))) else (none))) else (none)))) = some r := H
 have A3 := Aside0.mk A30
 clear A30
 replace H := Option.bind_eq_some_iff.mp H
 obtain ⟨⟨t454, t455⟩, A40, H⟩ := H
 replace H : ((numeralref12_Ratio.f k a0_0 a0_1 l0_2 l0_3 a0_4).bind fun bt456 => (if t454 = bt456.1 then ((numerallaw12_num.f t455).bind fun t458 => (if t458 = bt456.2 then ((numerallaw12_same.f k t448 l0_2).bind fun t459 => (if t459 = true then ((numerallaw12_same.f k t451 l0_3).bind fun t460 => (if t460 = true then ((numerallaw12_works.f k).bind fun t461 => (some t461)) else (none))) else (none))) else (none))) else (none))) = some r := H
 have A4 := Aside0.mk A40
 clear A40
 replace H := Option.bind_eq_some_iff.mp H
 obtain ⟨⟨t456, t457⟩, A50, H⟩ := H
 replace H : (if t454 = t456 then ((numerallaw12_num.f t455).bind fun t458 => (if t458 = t457 then ((numerallaw12_same.f k t448 l0_2).bind fun t459 => (if t459 = true then ((numerallaw12_same.f k t451 l0_3).bind fun t460 => (if t460 = true then ((numerallaw12_works.f k).bind fun t461 => (some t461)) else (none))) else (none))) else (none))) else (none)) = some r := H
 have A5 := Aside0.mk A50
 clear A50
 by_cases c6 : t454 = t456
 ·rw [if_pos c6] at H
  have c6b0 : (t454 == t456) = true := beq_iff_eq.mpr c6
  have c6b1 : (t454 != t456) = false := bne_eq_false_iff_eq.mpr c6
  clear c6
  replace H := Option.bind_eq_some_iff.mp H
  obtain ⟨t458, A70, H⟩ := H
  replace H : (if t458 = t457 then ((numerallaw12_same.f k t448 l0_2).bind fun t459 => (if t459 = true then ((numerallaw12_same.f k t451 l0_3).bind fun t460 => (if t460 = true then ((numerallaw12_works.f k).bind fun t461 => (some t461)) else (none))) else (none))) else (none)) = some r := H
  have A7 := Aside0.mk A70
  clear A70
  by_cases c8 : t458 = t457
  ·rw [if_pos c8] at H
   have c8b0 : (t458 == t457) = true := beq_iff_eq.mpr c8
   have c8b1 : (t458 != t457) = false := bne_eq_false_iff_eq.mpr c8
   clear c8
   replace H := Option.bind_eq_some_iff.mp H
   obtain ⟨t459, A90, H⟩ := H
   replace H : (if t459 = true then ((numerallaw12_same.f k t451 l0_3).bind fun t460 => (if t460 = true then ((numerallaw12_works.f k).bind fun t461 => (some t461)) else (none))) else (none)) = some r := H
   have A9 := Aside0.mk A90
   clear A90
   by_cases c10 : t459 = true
   ·subst c10
    have H1 : ((numerallaw12_same.f k t451 l0_3).bind fun t460 => (if t460 = true then ((numerallaw12_works.f k).bind fun t461 => (some t461)) else (none))) = some r := by rw [if_pos rfl] at H; exact H
    clear H
    have H := H1
    clear H1
    replace H := Option.bind_eq_some_iff.mp H
    obtain ⟨t460, A110, H⟩ := H
    replace H : (if t460 = true then ((numerallaw12_works.f k).bind fun t461 => (some t461)) else (none)) = some r := H
    have A11 := Aside0.mk A110
    clear A110
    by_cases c12 : t460 = true
    ·subst c12
     have H1 : ((numerallaw12_works.f k).bind fun t461 => (some t461)) = some r := by rw [if_pos rfl] at H; exact H
     clear H
     have H := H1
     clear H1
     replace H := Option.bind_eq_some_iff.mp H
     obtain ⟨t461, A130, H⟩ := H
     replace H : (some t461) = some r := H
     have A13 := Aside0.mk A130
     clear A130
     obtain rfl := Option.some.inj H
     go_enter Tryd.func3, Tryd.ntmps3
     try go_wp2_with (first | ((with_reducible refine gate_dst (N := 1) rfl ?_); refine box_event ?hg (N := 1) ?hd (cs := #[.int .i64 a0_0, .bool a0_1, .slice A0_2 l0_2.length c0_2, .slice A0_3 l0_3.length c0_3, .int .i64 a0_4]) (t := 24) ?hr ?_; (case hd => rfl); (case hg => rfl); (case hr => first | (go_simp; done) | (go_simp; rfl)); intro gb447 hg w14 hbox hb; have n0_ := Aside0.mk (below_step (by repeat (first | (with_reducible first | exact HB.out | apply below_alloc | apply pw_below_drewN | apply below_drew1) | exact HB.out)) hb); have n1_ := Aside0.mk (hbox); have n2_ := Aside0.mk ((by rw [hg]; exact (below_size (by repeat (first | (with_reducible first | exact HB.out | apply below_alloc | apply pw_below_drewN | apply below_drew1) | exact HB.out))) : w.heap.size ≤ gb447)); have n3_ := Aside0.mk ((by rw [hg]; exact (below_size (by repeat (first | (with_reducible first | exact HB.out | apply below_alloc | apply pw_below_drewN | apply below_drew1) | exact HB.out))) : w.heap.size ≤ gb447)); clear HB; have HB := n0_; have BK447 := n1_; have GW447 := n2_; have GE447 := n3_; clear n0_ n1_ n2_ n3_; clear hb hbox hg))
     have n0_ := Aside0.mk (blk_drew BK447.out)
     have n1_ := Aside0.mk (below_drew1 HB.out)
     clear BK447
     clear HB
     have BK447 := n0_
     have HB := n1_
     clear n0_ n1_
     refine start_ (n := 8) (S := fun w' => w'.cell? ⟨gb447, 0, none⟩ = some (.int .i64 a0_0) ∧ w'.cell? ⟨gb447, 1, none⟩ = some (.bool a0_1) ∧ w'.cell? ⟨gb447, 2, none⟩ = some (.slice A0_2 l0_2.length c0_2) ∧ w'.cell? ⟨gb447, 3, none⟩ = some (.slice A0_3 l0_3.length c0_3) ∧ w'.cell? ⟨gb447, 4, none⟩ = some (.int .i64 a0_4)) (ds := []) #[false, false, false, false, false, false, false, false] (by kernel_rfl) rfl rfl ⟨(blk_cell BK447.out 0).trans rfl, (blk_cell BK447.out 1).trans rfl, (blk_cell BK447.out 2).trans rfl, (blk_cell BK447.out 3).trans rfl, (blk_cell BK447.out 4).trans rfl⟩ (fun hHeld => ?_); refine with_tabW numerallaw12_RoundRatios.tab1 numerallaw12_RoundRatios.bits1 (fun HT_ HW_ => ?_)
     generalize w14.drew = w15 at BK447 HB hHeld ⊢
     refine pure_ (i := 0) (N := some 9) (v := ?_) (a' := ?_) #[true, false, false, false, false, false, false, false] rfl rfl (any_of HT_.out (by kernel_rfl)) (fun _ _ _ h => h) (Or.inl ⟨by rfl, ?_⟩) ?_ ?_
     rotate_left
     ·intro w'
      go_simp
      with_reducible rfl
     rotate_left
     ·simp only [Act.put, List.setIfInBounds_toArray, List.set_cons_zero, List.set_cons_succ, i64_w, i32_w]
      rfl
     refine pure_ (i := 3) (N := some 12) (v := ?_) (a' := ?_) #[true, false, false, true, false, false, false, false] rfl rfl (any_of HT_.out (by kernel_rfl)) (fun _ _ _ h => h) (Or.inl ⟨by rfl, ?_⟩) ?_ ?_
     rotate_left
     ·intro w'
      go_simp
      with_reducible rfl
     rotate_left
     ·simp only [Act.put, List.setIfInBounds_toArray, List.set_cons_zero, List.set_cons_succ, i64_w, i32_w]
      rfl
     refine take_ (i := 1) (N := some 10) (v := ?_) (a' := ?_) #[true, true, false, true, false, false, false, false] rfl rfl (take_ofW HT_.out HW_.out (by kernel_rfl)) (fun _ _ _ h => h) (Or.inl ⟨by rfl, ?_⟩) hHeld ?_ ?_
     rotate_left
     ·rintro w' ⟨s0, s1, s2, s3, s4⟩
      go_simp
      with_reducible rfl
     rotate_left
     ·simp only [Act.put, List.setIfInBounds_toArray, List.set_cons_zero, List.set_cons_succ, i64_w, i32_w]
      rfl
     refine take_ (i := 4) (N := some 13) (v := ?_) (a' := ?_) #[true, true, false, true, true, false, false, false] rfl rfl (take_ofW HT_.out HW_.out (by kernel_rfl)) (fun _ _ _ h => h) (Or.inl ⟨by rfl, ?_⟩) hHeld ?_ ?_
     rotate_left
     ·rintro w' ⟨s0, s1, s2, s3, s4⟩
      go_simp
      with_reducible rfl
     rotate_left
     ·simp only [Act.put, List.setIfInBounds_toArray, List.set_cons_zero, List.set_cons_succ, i64_w, i32_w]
      rfl
     refine one_ (i := 2) (N := some 11) #[true, true, true, true, true, false, false, false] rfl rfl (one_of HT_.out (by kernel_rfl)) (by decide) (fun K hK => ?_)
     refine goes_ Tryd.func7 (by kernel_rfl) rfl #[.slice A0_2 l0_2.length c0_2] (by rfl) rfl rfl (by (try simp only [List.map_toArray, List.map_cons, List.map_nil]); first | done | rfl | (simp only [List.length_drop, List.length_take]; rfl)) ?_
     with_reducible refine (numerallaw12_twin.calls _ _ l0_2 t448 _ ?side1 ?side2 A2.out).mono ?_
     (case side1 => repeat (first | exact (Kd.C_below HR0_2.out HB.out) | (with_reducible refine Kd.C_alloc ?_ _) | (with_reducible refine Kd.C_drewN ?_ _) | (with_reducible refine Kd.C_drew ?_)))
     (case side2 => exact HC0_2.out)
     rintro e w16 ⟨v449, rfl, ho0, hb⟩
     refine ⟨_, rfl, ?_⟩
     have n0_ := Aside0.mk (Kd.R_lower ho0 (below_size (by repeat (first | (with_reducible first | exact HB.out | apply below_alloc | apply pw_below_drewN | apply below_drew1 | refine below_set ?_ GE447.out) | exact HB.out))))
     have n1_ := Aside0.mk (blk_below (g := gb447) (o := .cells #[.int .i64 a0_0, .bool a0_1, .slice A0_2 l0_2.length c0_2, .slice A0_3 l0_3.length c0_3, .int .i64 a0_4] 24 (0, 0)) (by (with_reducible repeat (first | refine blk_drewN ?_ _ | refine blk_drew ?_ | refine blk_alloc ?_ _)); exact BK447.out) hb)
     have n2_ := Aside0.mk (below_step (by repeat (first | (with_reducible first | exact HB.out | apply below_alloc | apply pw_below_drewN | apply below_drew1 | refine below_set ?_ GE447.out) | exact HB.out)) hb)
     clear BK447
     clear HB
     have HO450 := n0_
     have BK447 := n1_
     have HB := n2_
     clear n0_ n1_ n2_
     (try clear hb)
     (try clear hb2)
     (try clear hk)
     (try clear hi)
     (try clear ho0)
     refine hK.out _ _ ⟨(blk_cell BK447.out 0).trans rfl, (blk_cell BK447.out 1).trans rfl, (blk_cell BK447.out 2).trans rfl, (blk_cell BK447.out 3).trans rfl, (blk_cell BK447.out 4).trans rfl⟩ (fun hHeld => ?_)
     clear hK K
     refine norm_ (a' := ?_) ?_ ?_
     rotate_left
     ·show Act.put _ (some 11) _ = _
      simp only [Act.put, List.setIfInBounds_toArray, List.set_cons_zero, List.set_cons_succ, i64_w, i32_w]
      rfl
     refine one_ (i := 5) (N := some 14) #[true, true, true, true, true, true, false, false] rfl rfl (one_of HT_.out (by kernel_rfl)) (by decide) (fun K hK => ?_)
     refine goes_ Tryd.func7 (by kernel_rfl) rfl #[.slice A0_3 l0_3.length c0_3] (by rfl) rfl rfl (by (try simp only [List.map_toArray, List.map_cons, List.map_nil]); first | done | rfl | (simp only [List.length_drop, List.length_take]; rfl)) ?_
     with_reducible refine (numerallaw12_twin.calls _ _ l0_3 t451 _ ?side1 ?side2 A3.out).mono ?_
     (case side1 => repeat (first | exact (Kd.C_below HR0_3.out HB.out) | (with_reducible refine Kd.C_alloc ?_ _) | (with_reducible refine Kd.C_drewN ?_ _) | (with_reducible refine Kd.C_drew ?_)))
     (case side2 => exact HC0_3.out)
     rintro e w17 ⟨v452, rfl, ho0, hb⟩
     refine ⟨_, rfl, ?_⟩
     have n0_ := Aside0.mk (Kd.R_elder' (by (with_reducible repeat (first | apply Kd.R_alloc | apply Kd.R_drewN | apply Kd.R_drew)); exact HO450.out) (Kd.R_base ho0) hb)
     have n1_ := Aside0.mk (Kd.R_lower (Kd.R_new' ho0 (Kd.R_lt (by (with_reducible repeat (first | apply Kd.R_alloc | apply Kd.R_drewN | apply Kd.R_drew)); exact HO450.out))) (below_size (by repeat (first | (with_reducible first | exact HB.out | apply below_alloc | apply pw_below_drewN | apply below_drew1 | refine below_set ?_ GE447.out) | exact HB.out))))
     have n2_ := Aside0.mk (blk_below (g := gb447) (o := .cells #[.int .i64 a0_0, .bool a0_1, .slice A0_2 l0_2.length c0_2, .slice A0_3 l0_3.length c0_3, .int .i64 a0_4] 24 (0, 0)) (by (with_reducible repeat (first | refine blk_drewN ?_ _ | refine blk_drew ?_ | refine blk_alloc ?_ _)); exact BK447.out) hb)
     have n3_ := Aside0.mk (below_step (by repeat (first | (with_reducible first | exact HB.out | apply below_alloc | apply pw_below_drewN | apply below_drew1 | refine below_set ?_ GE447.out) | exact HB.out)) hb)
     clear HO450
     clear BK447
     clear HB
     have HO450 := n0_
     have HO453 := n1_
     have BK447 := n2_
     have HB := n3_
     clear n0_ n1_ n2_ n3_
     (try clear hb)
     (try clear hb2)
     (try clear hk)
     (try clear hi)
     (try clear ho0)
     refine hK.out _ _ ⟨(blk_cell BK447.out 0).trans rfl, (blk_cell BK447.out 1).trans rfl, (blk_cell BK447.out 2).trans rfl, (blk_cell BK447.out 3).trans rfl, (blk_cell BK447.out 4).trans rfl⟩ (fun hHeld => ?_)
     clear hK K
     refine norm_ (a' := ?_) ?_ ?_
     rotate_left
     ·show Act.put _ (some 14) _ = _
      simp only [Act.put, List.setIfInBounds_toArray, List.set_cons_zero, List.set_cons_succ, i64_w, i32_w]
      rfl
     refine pure_ (i := 6) (N := some 3) (v := ?_) (a' := ?_) #[true, true, true, true, true, true, true, false] rfl rfl (any_of HT_.out (by kernel_rfl)) (fun _ _ _ h => h) (Or.inl ⟨by rfl, ?_⟩) ?_ ?_
     rotate_left
     ·intro w'
      go_simp
      with_reducible rfl
     rotate_left
     ·simp only [Act.put, List.setIfInBounds_toArray, List.set_cons_zero, List.set_cons_succ, i64_w, i32_w]
      rfl
     refine pure_ (i := 7) (N := some 4) (v := ?_) (a' := ?_) #[true, true, true, true, true, true, true, true] rfl rfl (any_of HT_.out (by kernel_rfl)) (fun _ _ _ h => h) (Or.inl ⟨by rfl, ?_⟩) ?_ ?_
     rotate_left
     ·intro w'
      go_simp
      with_reducible rfl
     rotate_left
     ·simp only [Act.put, List.setIfInBounds_toArray, List.set_cons_zero, List.set_cons_succ, i64_w, i32_w]
      rfl
     refine done_ (done_of HT_.out (by kernel_rfl)) ?_
     have hcz18_0 : w17.cell? ⟨gb447, 0, none⟩ = some (.int .i64 a0_0) := (blk_cell BK447.out 0).trans rfl
     have hcz18_1 : w17.cell? ⟨gb447, 1, none⟩ = some (.bool a0_1) := (blk_cell BK447.out 1).trans rfl
     have hcz18_2 : w17.cell? ⟨gb447, 2, none⟩ = some (.slice A0_2 l0_2.length c0_2) := (blk_cell BK447.out 2).trans rfl
     have hcz18_3 : w17.cell? ⟨gb447, 3, none⟩ = some (.slice A0_3 l0_3.length c0_3) := (blk_cell BK447.out 3).trans rfl
     have hcz18_4 : w17.cell? ⟨gb447, 4, none⟩ = some (.int .i64 a0_4) := (blk_cell BK447.out 4).trans rfl
     have hfz18_0 := blk_frozen BK447.out 0
     have hfz18_1 := blk_frozen BK447.out 1
     have hfz18_2 := blk_frozen BK447.out 2
     have hfz18_3 := blk_frozen BK447.out 3
     have hfz18_4 := blk_frozen BK447.out 4
     obtain ⟨Ao19, co19, eo19⟩ := Kd.R_slice HO450.out
     subst eo19
     obtain ⟨Ao20, co20, eo20⟩ := Kd.R_slice HO453.out
     subst eo20
     try go_wp2_with (first | ((with_reducible refine gate_callee (f := 8) rfl ?_); refine goesL_ (some 24) rfl rfl Tryd.func8 (by kernel_rfl) rfl #[.int .i64 a0_0, .bool a0_1, .slice Ao19 t448.length co19, .slice Ao20 t451.length co20, .int .i64 a0_4] rfl (by (try simp only [List.map_toArray, List.map_cons, List.map_nil]); first | done | rfl | (simp only [List.length_drop, List.length_take]; rfl)) ?_; (with_reducible refine (round_Ratio.calls k a0_0 a0_1 (fun k_ => some k_ = (.slice Ao19 t448.length co19 : Value).ownBlock) _ _ t448 (fun k_ => some k_ = (.slice Ao20 t451.length co20 : Value).ownBlock) _ _ t451 a0_4 t454 t455 _ ?side1 ?side2 ?side3 A4.out).mono ?_); (case side1 => exact Kd.R_V (Kd.R_tight rfl (Kd.R_types (HO450.out) BK447.out (by decide)))); (case side2 => exact Kd.R_V (Kd.R_tight rfl (Kd.R_types (HO453.out) BK447.out (by decide)))); (case side3 => exact Laid_DB64.of_below HL_DB64.out (by repeat (first | (with_reducible first | exact HB.out | apply below_alloc | apply pw_below_drewN | apply below_drew1 | refine below_set ?_ GE447.out) | exact HB.out))); rintro e w21 ⟨rfl, hb⟩; refine ⟨_, rfl, ?_⟩; have n0_ := Aside0.mk (Kd.R_below (by (with_reducible repeat (first | apply Kd.R_alloc | apply Kd.R_drewN | apply Kd.R_drew)); exact HO450.out) hb); have n1_ := Aside0.mk (Kd.R_below (by (with_reducible repeat (first | apply Kd.R_alloc | apply Kd.R_drewN | apply Kd.R_drew)); exact HO453.out) hb); have n2_ := Aside0.mk (blk_below (g := gb447) (o := .cells #[.int .i64 a0_0, .bool a0_1, .slice A0_2 l0_2.length c0_2, .slice A0_3 l0_3.length c0_3, .int .i64 a0_4] 24 (0, 0)) (by (with_reducible repeat (first | refine blk_drewN ?_ _ | refine blk_drew ?_ | refine blk_alloc ?_ _)); exact BK447.out) hb); have n3_ := Aside0.mk (below_step (by repeat (first | (with_reducible first | exact HB.out | apply below_alloc | apply pw_below_drewN | apply below_drew1 | refine below_set ?_ GE447.out) | exact HB.out)) hb); clear HO450; clear HO453; clear BK447; clear HB; have HO450 := n0_; have HO453 := n1_; have BK447 := n2_; have HB := n3_; clear n0_ n1_ n2_ n3_; (try clear hb); (try clear hb2); (try clear hk); (try clear hi); (try simp only [errW_none, errW_some]); have hcz22_0 : w21.cell? ⟨gb447, 0, none⟩ = some (.int .i64 a0_0) := (blk_cell BK447.out 0).trans rfl; have hcz22_1 : w21.cell? ⟨gb447, 1, none⟩ = some (.bool a0_1) := (blk_cell BK447.out 1).trans rfl; have hcz22_2 : w21.cell? ⟨gb447, 2, none⟩ = some (.slice A0_2 l0_2.length c0_2) := (blk_cell BK447.out 2).trans rfl; have hcz22_3 : w21.cell? ⟨gb447, 3, none⟩ = some (.slice A0_3 l0_3.length c0_3) := (blk_cell BK447.out 3).trans rfl; have hcz22_4 : w21.cell? ⟨gb447, 4, none⟩ = some (.int .i64 a0_4) := (blk_cell BK447.out 4).trans rfl; have hfz22_0 := blk_frozen BK447.out 0; have hfz22_1 := blk_frozen BK447.out 1; have hfz22_2 := blk_frozen BK447.out 2; have hfz22_3 := blk_frozen BK447.out 3; have hfz22_4 := blk_frozen BK447.out 4) | ((with_reducible refine gate_callee (f := 9) rfl ?_); refine goesL_ (some 38) rfl rfl Tryd.func9 (by kernel_rfl) rfl #[.int .i64 a0_0, .bool a0_1, .slice A0_2 l0_2.length c0_2, .slice A0_3 l0_3.length c0_3, .int .i64 a0_4] rfl (by (try simp only [List.map_toArray, List.map_cons, List.map_nil]); first | done | rfl | (simp only [List.length_drop, List.length_take]; rfl)) ?_; (with_reducible refine (numeralref12_Ratio.calls k a0_0 a0_1 _ _ l0_2 _ _ l0_3 a0_4 t456 t457 _ ?side1 ?side2 ?side3 ?side4 A5.out).mono ?_); (case side1 => repeat (first | exact (Kd.C_below HR0_2.out HB.out) | (with_reducible refine Kd.C_alloc ?_ _) | (with_reducible refine Kd.C_drewN ?_ _) | (with_reducible refine Kd.C_drew ?_))); (case side2 => exact HC0_2.out); (case side3 => repeat (first | exact (Kd.C_below HR0_3.out HB.out) | (with_reducible refine Kd.C_alloc ?_ _) | (with_reducible refine Kd.C_drewN ?_ _) | (with_reducible refine Kd.C_drew ?_))); (case side4 => exact HC0_3.out); rintro e w23 ⟨rfl, hb⟩; refine ⟨_, rfl, ?_⟩; have n0_ := Aside0.mk (Kd.R_below (by (with_reducible repeat (first | apply Kd.R_alloc | apply Kd.R_drewN | apply Kd.R_drew)); exact HO450.out) hb); have n1_ := Aside0.mk (Kd.R_below (by (with_reducible repeat (first | apply Kd.R_alloc | apply Kd.R_drewN | apply Kd.R_drew)); exact HO453.out) hb); have n2_ := Aside0.mk (blk_below (g := gb447) (o := .cells #[.int .i64 a0_0, .bool a0_1, .slice A0_2 l0_2.length c0_2, .slice A0_3 l0_3.length c0_3, .int .i64 a0_4] 24 (0, 0)) (by (with_reducible repeat (first | refine blk_drewN ?_ _ | refine blk_drew ?_ | refine blk_alloc ?_ _)); exact BK447.out) hb); have n3_ := Aside0.mk (below_step (by repeat (first | (with_reducible first | exact HB.out | apply below_alloc | apply pw_below_drewN | apply below_drew1 | refine below_set ?_ GE447.out) | exact HB.out)) hb); clear HO450; clear HO453; clear BK447; clear HB; have HO450 := n0_; have HO453 := n1_; have BK447 := n2_; have HB := n3_; clear n0_ n1_ n2_ n3_; (try clear hb); (try clear hb2); (try clear hk); (try clear hi); have CA7 := fun W => numerallaw12_num.calls t455 t458 W A7.out; try simp only [errW_none, errW_some] at CA7) | (go_at_call 10; (with_reducible refine (CA7 _).mono ?_); rintro e w' ⟨rfl, ⟨nd, rfl⟩⟩; have hcz24_0 : w23.cell? ⟨gb447, 0, none⟩ = some (.int .i64 a0_0) := (blk_cell BK447.out 0).trans rfl; have hcz24_1 : w23.cell? ⟨gb447, 1, none⟩ = some (.bool a0_1) := (blk_cell BK447.out 1).trans rfl; have hcz24_2 : w23.cell? ⟨gb447, 2, none⟩ = some (.slice A0_2 l0_2.length c0_2) := (blk_cell BK447.out 2).trans rfl; have hcz24_3 : w23.cell? ⟨gb447, 3, none⟩ = some (.slice A0_3 l0_3.length c0_3) := (blk_cell BK447.out 3).trans rfl; have hcz24_4 : w23.cell? ⟨gb447, 4, none⟩ = some (.int .i64 a0_4) := (blk_cell BK447.out 4).trans rfl; have hfz24_0 := blk_frozen BK447.out 0; have hfz24_1 := blk_frozen BK447.out 1; have hfz24_2 := blk_frozen BK447.out 2; have hfz24_3 := blk_frozen BK447.out 3; have hfz24_4 := blk_frozen BK447.out 4) | (go_at_call 11; (with_reducible refine (numerallaw12_same.calls k _ _ t448 _ _ l0_2 true _ ?side1 ?side2 ?side3 ?side4 A9.out).mono ?_); (case side1 => repeat (first | exact (Kd.R_reads' HO450.out).2.2 | (with_reducible refine Kd.C_alloc ?_ _) | (with_reducible refine Kd.C_drewN ?_ _) | (with_reducible refine Kd.C_drew ?_))); (case side2 => exact (Kd.R_reads' HO450.out).2.1); (case side3 => repeat (first | exact (Kd.C_below HR0_2.out (by repeat (first | (with_reducible first | exact HB.out | apply below_alloc | apply pw_below_drewN | apply below_drew1 | refine below_set ?_ GE447.out) | exact HB.out))) | (with_reducible refine Kd.C_alloc ?_ _) | (with_reducible refine Kd.C_drewN ?_ _) | (with_reducible refine Kd.C_drew ?_))); (case side4 => exact HC0_2.out); rintro e w' ⟨rfl, ⟨nd, rfl⟩⟩) | (go_at_call 11; (with_reducible refine (numerallaw12_same.calls k _ _ t451 _ _ l0_3 true _ ?side1 ?side2 ?side3 ?side4 A11.out).mono ?_); (case side1 => repeat (first | exact (Kd.R_reads' HO453.out).2.2 | (with_reducible refine Kd.C_alloc ?_ _) | (with_reducible refine Kd.C_drewN ?_ _) | (with_reducible refine Kd.C_drew ?_))); (case side2 => exact (Kd.R_reads' HO453.out).2.1); (case side3 => repeat (first | exact (Kd.C_below HR0_3.out (by repeat (first | (with_reducible first | exact HB.out | apply below_alloc | apply pw_below_drewN | apply below_drew1 | refine below_set ?_ GE447.out) | exact HB.out))) | (with_reducible refine Kd.C_alloc ?_ _) | (with_reducible refine Kd.C_drewN ?_ _) | (with_reducible refine Kd.C_drew ?_))); (case side4 => exact HC0_3.out); rintro e w' ⟨rfl, ⟨nd, rfl⟩⟩) | (go_at_call 12; (with_reducible refine (numerallaw12_works.calls k  t461 _ ?side1 A13.out).mono ?_); (case side1 => exact Laid_DB64.of_below HL_DB64.out (by repeat (first | (with_reducible first | exact HB.out | apply below_alloc | apply pw_below_drewN | apply below_drew1 | refine below_set ?_ GE447.out) | exact HB.out))); rintro e w25 ⟨rfl, hb⟩; have n0_ := Aside0.mk (Kd.R_below (by (with_reducible repeat (first | apply Kd.R_alloc | apply Kd.R_drewN | apply Kd.R_drew)); exact HO450.out) hb); have n1_ := Aside0.mk (Kd.R_below (by (with_reducible repeat (first | apply Kd.R_alloc | apply Kd.R_drewN | apply Kd.R_drew)); exact HO453.out) hb); have n2_ := Aside0.mk (blk_below (g := gb447) (o := .cells #[.int .i64 a0_0, .bool a0_1, .slice A0_2 l0_2.length c0_2, .slice A0_3 l0_3.length c0_3, .int .i64 a0_4] 24 (0, 0)) (by (with_reducible repeat (first | refine blk_drewN ?_ _ | refine blk_drew ?_ | refine blk_alloc ?_ _)); exact BK447.out) hb); have n3_ := Aside0.mk (below_step (by repeat (first | (with_reducible first | exact HB.out | apply below_alloc | apply pw_below_drewN | apply below_drew1 | refine below_set ?_ GE447.out) | exact HB.out)) hb); clear HO450; clear HO453; clear BK447; clear HB; have HO450 := n0_; have HO453 := n1_; have BK447 := n2_; have HB := n3_; clear n0_ n1_ n2_ n3_; (try clear hb); (try clear hb2); (try clear hk); (try clear hi)))
     go_ret
     exact ⟨by first | rfl | (simp [errW_none, errW_some] <;> rfl) | (simp [*, errW_none, errW_some] <;> rfl), by repeat (first | (with_reducible first | exact HB.out | apply below_alloc | apply pw_below_drewN | apply below_drew1 | refine below_set ?_ GE447.out) | exact HB.out)⟩
    ·replace c12 := Bool.eq_false_iff.mpr c12
     subst c12
     have H1 : (none) = some r := by rw [if_neg (show ¬ (false = true) by decide)] at H; exact H
     clear H
     have H := H1
     clear H1
     exact absurd H (by simp)
   ·replace c10 := Bool.eq_false_iff.mpr c10
    subst c10
    have H1 : (none) = some r := by rw [if_neg (show ¬ (false = true) by decide)] at H; exact H
    clear H
    have H := H1
    clear H1
    exact absurd H (by simp)
  ·rw [if_neg c8] at H
   exact absurd H (by simp)
 ·rw [if_neg c6] at H
  exact absurd H (by simp)

/-- THE ONE PURE STATEMENT of numerallaw12_RoundRatios: mine to prove. -/
def numerallaw12_RoundRatios.Pure : Prop := ∀ (a0_0 : Int) (a0_1 : Bool) (l0_2 : List Int) (l0_3 : List Int) (a0_4 : Int), (Lit.int .i64 a0_0).wf = true → l0_2.length ≤ maxLen → l0_2.length * 8 ≤ 140737488351232 → (∀ x ∈ l0_2, (Lit.int .u64 x).wf = true) → l0_3.length ≤ maxLen → l0_3.length * 8 ≤ 140737488351232 → (∀ x ∈ l0_3, (Lit.int .u64 x).wf = true) → (Lit.int .i64 a0_4).wf = true → ∃ k, numerallaw12_RoundRatios.f k a0_0 a0_1 l0_2 l0_3 a0_4 = some true
theorem numerallaw12_RoundRatios.walk (P : numerallaw12_RoundRatios.Pure) (a0_0 : Int) (a0_1 : Bool) (a0_2 : Option Addr) (len0_2 cap0_2 : Nat) (z0_2 : List Int) (a0_3 : Option Addr) (len0_3 cap0_3 : Nat) (z0_3 : List Int) (a0_4 : Int) (w : World) (w0_0 : (Lit.int .i64 a0_0).wf = true) (w0_2 : (a0_2 = none ∧ len0_2 = 0 ∧ cap0_2 = 0 ∧ z0_2 = []) ∨ ∃ x, a0_2 = some x ∧ len0_2 ≤ cap0_2 ∧ cap0_2 ≤ maxLen ∧ z0_2.length = cap0_2 ∧ (∀ i, i < z0_2.length → w.cell? (x.add i) = some (.int .u64 (z0_2.getD i 0))) ∧ ∀ n ∈ z0_2, (Lit.int .u64 n).wf = true) (y0_2 : len0_2 * 8 ≤ 140737488351232) (w0_3 : (a0_3 = none ∧ len0_3 = 0 ∧ cap0_3 = 0 ∧ z0_3 = []) ∨ ∃ x, a0_3 = some x ∧ len0_3 ≤ cap0_3 ∧ cap0_3 ≤ maxLen ∧ z0_3.length = cap0_3 ∧ (∀ i, i < z0_3.length → w.cell? (x.add i) = some (.int .u64 (z0_3.getD i 0))) ∧ ∀ n ∈ z0_3, (Lit.int .u64 n).wf = true) (y0_3 : len0_3 * 8 ≤ 140737488351232) (w0_4 : (Lit.int .i64 a0_4).wf = true) (hl_DB64 : Laid_DB64 w) :
  Calls Tryd.prog 3 #[.agg #[.int .i64 a0_0, .bool a0_1, .slice a0_2 len0_2 cap0_2, .slice a0_3 len0_3 cap0_3, .int .i64 a0_4]] w fun e w' => e = .returned (.bool true) ∧ Below w.heap.size w w' := by
 obtain ⟨l0_2, rfl, hr0_2, hm0_2, hw0_2, hc0_2⟩ := ReadsInt.ofRowC w0_2
 obtain ⟨l0_3, rfl, hr0_3, hm0_3, hw0_3, hc0_3⟩ := ReadsInt.ofRowC w0_3
 obtain ⟨k, h⟩ := P a0_0 a0_1 l0_2 l0_3 a0_4 w0_0 hm0_2 y0_2 hw0_2 hm0_3 y0_3 hw0_3 w0_4
 refine (numerallaw12_RoundRatios.calls k a0_0 a0_1 _ _ l0_2 _ _ l0_3 a0_4 true w (Kd.C_of_reads (d := (0 : Int)) (h1 := fun _ => rfl) hr0_2) hc0_2 (Kd.C_of_reads (d := (0 : Int)) (h1 := fun _ => rfl) hr0_3) hc0_3 hl_DB64 h).mono ?_
 rintro e w' ⟨rfl, hd⟩
 exact ⟨rfl, hd⟩

end Go.Proofs.YtbjmfocjigikgaaDoor.Xr
