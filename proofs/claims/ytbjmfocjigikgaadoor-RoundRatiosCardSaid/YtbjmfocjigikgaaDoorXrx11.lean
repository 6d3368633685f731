-- PRINTED by print.py (a twelfth state) out of the translation. Not trusted: Lean checks it.
import Derived.Test.YtbjmfocjigikgaaDoorXrx0
import Derived.Test.YtbjmfocjigikgaaDoorXrx7
import Derived.Test.YtbjmfocjigikgaaDoorXrx8
import Derived.Test.YtbjmfocjigikgaaDoorXrx9
import Derived.Test.YtbjmfocjigikgaaDoorXrx10
namespace Go.Proofs.YtbjmfocjigikgaaDoor.Xr
open Go.RowKit Go.Proofs.YtbjmfocjigikgaaDoorW.PrintWords Go.Proofs.YtbjmfocjigikgaaDoorW.PrintLast Go.Proofs.YtbjmfocjigikgaaDoorW.PrintMore
attribute [local go_sem] max2_int min2_int max_two min_two max_three min_three max_four min_four   -- for this text's walks alone
set_option linter.unusedVariables false
set_option linter.unusedSimpArgs false

/-! ### numeralref02_Word: function 68 -/
def numeralref02_Word.l0 : Nat → List Int → Int → Int → Option (Int)
 | 0, _, _, _ => none
 | k + 1, x0, x3, x4 => if x4 < (x0.length : Int) then (if x4 < 2 then (if 0 ≤ x4 then (if 0 ≤ (IntKind.u64.wrap (wrap64 (32 * x4))) then (numeralref02_Word.l0 k x0 (Go.bits .or .u64 x3 (shl .u64 (IntKind.u64.wrap (rd x0 x4)) (IntKind.u64.wrap (wrap64 (32 * x4))))) (wrap64 (x4 + 1))) else (none)) else (none)) else (some x3)) else (some x3)
def numeralref02_Word.f (k : Nat) (l0 : List Int) : Option (Int) := numeralref02_Word.l0 k l0 0 0
set_option maxHeartbeats 8000000 in
set_option maxRecDepth 100000 in
theorem numeralref02_Word.calls (k : Nat) (A0 : Option Addr) (c0 : Nat) (l0 : List Int) (r : Int) (w : World) (hr0 : Kd.C (Kd.int .u32) w A0 l0.length l0) (hc0 : l0.length ≤ c0) (h : numeralref02_Word.f k l0 = some r) :
  Calls Tryd.prog 68 #[.slice A0 l0.length c0] w fun e w' => e = .returned (.int .u64 r) ∧ Drawn0 w w' := by
 have HR0 := Aside0.mk hr0
 have HC0 := Aside0.mk hc0
 clear hr0 hc0
 have H : (numeralref02_Word.l0 k l0 0 0) = some r := h
 clear h
 have H' := Aside0.mk H
 clear H
 go_enter Tryd.func68, Tryd.ntmps68
 go_wp2
 go_loopg [3, 4] k (fun kq v3 v4 w' => ∃ (x3_1 : Int) (x4_1 : Int), v3 = .int .u64 x3_1 ∧ v4 = .int .i64 x4_1 ∧ Aside0 (numeralref02_Word.l0 kq l0 x3_1 x4_1 = some r) ∧ Aside0 (kq ≤ k) ∧ Drawn0 w w')
 case atStart => exact ⟨(0), (0), (by first | rfl | (simp; done) | (simp [*]; done)), (by first | rfl | (simp; done) | (simp [*]; done)), H', ⟨Nat.le_refl _⟩, by repeat (first | exact Drawn0.refl _ | apply Drawn0.step)⟩
 case round =>
  clear H'
  obtain ⟨x3_1, x4_1, rfl, rfl, HA, HK1, ⟨m1, rfl⟩⟩ := hrel
  cases gk with
  | zero => exact absurd HA.out (by simp [numeralref02_Word.l0])
  | succ k1 =>
   have H := HA.out
   clear HA
   simp only [numeralref02_Word.l0] at H
   by_cases c2 : x4_1 < (l0.length : Int)
   ·rw [if_pos c2] at H
    have c2b0 : decide (x4_1 < (l0.length : Int)) = true := decide_eq_true c2
    clear c2
    by_cases c3 : x4_1 < 2
    ·rw [if_pos c3] at H
     have c3b0 : decide (x4_1 < 2) = true := decide_eq_true c3
     clear c3
     by_cases c4 : 0 ≤ x4_1
     ·rw [if_pos c4] at H
      have c4b0 : decide (0 ≤ x4_1) = true := decide_eq_true c4
      clear c4
      obtain ⟨ji5, hji5⟩ : ∃ j_ : Int, (IntKind.u64.wrap (wrap64 (32 * x4_1))) = j_ := ⟨_, rfl⟩
      replace H : (if 0 ≤ (ji5) then (numeralref02_Word.l0 k1 l0 (Go.bits .or .u64 x3_1 (shl .u64 (IntKind.u64.wrap (rd l0 x4_1)) (ji5))) (wrap64 (x4_1 + 1))) else (none)) = some r := by first | (rw [hji5] at H; exact H) | (simp only [hji5] at H ⊢; exact H)
      by_cases c6 : 0 ≤ (ji5)
      ·rw [if_pos c6] at H
       have c6b0 := eq_true c6
       have c6b1 : decide (0 ≤ (ji5)) = true := decide_eq_true c6
       clear c6
       obtain ⟨ji7, hji7⟩ : ∃ j_ : Int, (shl .u64 (IntKind.u64.wrap (rd l0 x4_1)) (ji5)) = j_ := ⟨_, rfl⟩
       replace H : (numeralref02_Word.l0 k1 l0 (Go.bits .or .u64 x3_1 (ji7)) (wrap64 (x4_1 + 1))) = some r := by first | (rw [hji7] at H; exact H) | (simp only [hji7] at H ⊢; exact H)
       have hji7_ : (IntKind.u64.wrap ((IntKind.u64.wrap (rd l0 x4_1)) * 2 ^ min (ji5).toNat 64)) = ji7 := hji7
       have hji7z : (ji5) ≤ 64 → (IntKind.u64.wrap ((IntKind.u64.wrap (rd l0 x4_1)) * 2 ^ (ji5).toNat)) = ji7 := shl_small hji7
       obtain ⟨ji8, hji8⟩ : ∃ j_ : Int, (Go.bits .or .u64 x3_1 (ji7)) = j_ := ⟨_, rfl⟩
       replace H : (numeralref02_Word.l0 k1 l0 ji8 (wrap64 (x4_1 + 1))) = some r := by first | (rw [hji8] at H; exact H) | (simp only [hji8] at H ⊢; exact H)
       have H' := Aside0.mk H
       clear H
       have p348 : 0 ≤ (x4_1 : Int) := of_decide_eq_true (by first | (with_reducible assumption) | assumption)
       have q348 : x4_1 < (l0.length : Int) := of_decide_eq_true (by first | (with_reducible assumption) | assumption)
       obtain ⟨ad348, e348, hx348_0⟩ := Kd.at_int HR0.out x4_1 p348 q348
       cases e348
       replace p348 := eq_true p348
       replace q348 := eq_true q348
       go_wp2
       go_roundg k1
       case measure => have := HK1.out; omega
       case rel => exact ⟨(ji8), (wrap64 (x4_1 + 1)), (by first | rfl | (simp; done) | (simp only [← hji8] <;> (first | rfl | simp)) | (simp [*]; done)), (by first | rfl | (simp; done) | (simp [*]; done)), H', ⟨by have := HK1.out; omega⟩, by repeat (first | exact Drawn0.refl _ | apply Drawn0.step)⟩
      ·rw [if_neg c6] at H
       exact absurd H (by simp)
     ·rw [if_neg c4] at H
      exact absurd H (by simp)
    ·rw [if_neg c3] at H
     have c3b0 : decide (x4_1 < 2) = false := decide_eq_false c3
     clear c3
     obtain rfl := Option.some.inj H
     go_wp2
     go_ret
     exact ⟨by first | rfl | (simp; done) | (simp [*]; done), by repeat (first | exact Drawn0.refl _ | apply Drawn0.step)⟩
   ·rw [if_neg c2] at H
    have c2b0 : decide (x4_1 < (l0.length : Int)) = false := decide_eq_false c2
    clear c2
    obtain rfl := Option.some.inj H
    go_wp2
    go_ret
    exact ⟨by first | rfl | (simp; done) | (simp [*]; done), by repeat (first | exact Drawn0.refl _ | apply Drawn0.step)⟩

/-! ### numeralref12_Fraction: function 50 -/
mutual
def numeralref12_Fraction.j0 : Nat → Int → List Int → List Int → Int → Bool → Int → Int → Int → Option (Int × Bool × List Int × List Int)
 | 0, _, _, _, _, _, _, _, _ => none
 | k + 1, x0, x1, x2, x3, x4, x12, x13, x14 => if (wrap64 (x3 - (mx (wrap64 ((wrap64 ((wrap64 (x14 + x3)) - x12)) + 1)) x13))) ≥ 0 then ((numeralref02_Up.f k x1 (wrap64 (x3 - (mx (wrap64 ((wrap64 ((wrap64 (x14 + x3)) - x12)) + 1)) x13)))).bind fun t354 => (numeralref12_Fraction.j1 k x0 x1 x2 x4 (mx (wrap64 ((wrap64 ((wrap64 (x14 + x3)) - x12)) + 1)) x13) t354 x2)) else ((numeralref02_Up.f k x2 (wrap64 (-(wrap64 (x3 - (mx (wrap64 ((wrap64 ((wrap64 (x14 + x3)) - x12)) + 1)) x13)))))).bind fun t357 => (numeralref12_Fraction.j1 k x0 x1 x2 x4 (mx (wrap64 ((wrap64 ((wrap64 (x14 + x3)) - x12)) + 1)) x13) x1 t357))
def numeralref12_Fraction.j1 : Nat → Int → List Int → List Int → Bool → Int → List Int → List Int → Option (Int × Bool × List Int × List Int)
 | 0, _, _, _, _, _, _, _ => none
 | k + 1, x0, x1, x2, x4, x15, x17, x18 => (numeralref02_Over.f k x17 x18).bind fun bt360 => ((numeralref02_Up.f k bt360.2 1).bind fun t366 => ((numeralref02_Compare.f k t366 x18).bind fun t369 => (if t369 > 0 then (numeralref12_Fraction.j2 k x0 x1 x2 x15 bt360.1 true) else (if t369 = 0 then (if x4 = true then (numeralref12_Fraction.j2 k x0 x1 x2 x15 bt360.1 true) else ((numeralref02_Bit.f bt360.1 0).bind fun t370 => (numeralref12_Fraction.j2 k x0 x1 x2 x15 bt360.1 t370))) else (numeralref12_Fraction.j2 k x0 x1 x2 x15 bt360.1 false)))))
def numeralref12_Fraction.j2 : Nat → Int → List Int → List Int → Int → List Int → Bool → Option (Int × Bool × List Int × List Int)
 | 0, _, _, _, _, _, _ => none
 | k + 1, x0, x1, x2, x15, x19, x84 => if x84 = true then ((numeralref02_Small.f k 1).bind fun t371 => ((numeralref02_Plus.f k x19 t371).bind fun t374 => (numeralref12_Fraction.j3 k x0 x1 x2 x15 t374))) else (numeralref12_Fraction.j3 k x0 x1 x2 x15 x19)
def numeralref12_Fraction.j3 : Nat → Int → List Int → List Int → Int → List Int → Option (Int × Bool × List Int × List Int)
 | 0, _, _, _, _, _ => none
 | k + 1, x0, x1, x2, x15, x19 => if (x19.length : Int) = 0 then (some (0, false, x1, x2)) else ((numeralref02_Word.f k x19).bind fun t377 => ((numeralref11_Pack.f k false 2 t377 x15 x0).bind fun bt378 => (if bt378.2 = 0 then (some (bt378.1, false, x1, x2)) else ((numeralref11_Inf.f x0).bind fun t380 => (some (t380, true, x1, x2))))))
end
def numeralref12_Fraction.f (k : Nat) (a0 : Int) (l1 : List Int) (l2 : List Int) (a3 : Int) (a4 : Bool) : Option (Int × Bool × List Int × List Int) := (numeralref12_format.f a0).bind fun bt349 => ((numeralref02_Length.f k l1).bind fun t351 => ((numeralref02_Length.f k l2).bind fun t352 => ((numeralref12_below.f k l1 l2 (wrap64 (t351 - t352))).bind fun t353 => (if t353 = true then (numeralref12_Fraction.j0 k a0 l1 l2 a3 a4 bt349.1 bt349.2 (wrap64 ((wrap64 (t351 - t352)) - 1))) else (numeralref12_Fraction.j0 k a0 l1 l2 a3 a4 bt349.1 bt349.2 (wrap64 (t351 - t352)))))))
set_option maxHeartbeats 8000000 in
set_option maxRecDepth 100000 in
theorem numeralref12_Fraction.calls (k : Nat) (a0 : Int) (P1_ : Nat → Prop) (u9000_ : Value) (l1 : List Int) (P2_ : Nat → Prop) (u9001_ : Value) (l2 : List Int) (a3 : Int) (a4 : Bool) (r1 : Int) (r2 : Bool) (r3 : List Int) (r4 : List Int) (w0 w : World) (hB : Below w0.heap.size w0 w) (ho1 : Kd.R (Kd.int .u32) 89 w w0.heap.size P1_ u9000_ l1) (hp1_2 : ∀ k_, P1_ k_ → ¬ P2_ k_) (ho2 : Kd.R (Kd.int .u32) 89 w w0.heap.size P2_ u9001_ l2) (hp2_1 : ∀ k_, P2_ k_ → ¬ P1_ k_) (h : numeralref12_Fraction.f k a0 l1 l2 a3 a4 = some (r1, r2, r3, r4)) :
  Calls Tryd.prog 50 #[.int .i64 a0, u9000_, u9001_, .int .i64 a3, .bool a4] w fun e w' => e = .returned (.tuple #[.int .u64 r1, .bool r2]) ∧ Kd.R (Kd.int .u32) 89 w' w0.heap.size (fun k_ => ((P1_ k_ ∨ P2_ k_) ∨ w.heap.size ≤ k_)) u9000_ r3 ∧ Kd.R (Kd.int .u32) 89 w' w0.heap.size (fun k_ => ((P1_ k_ ∨ P2_ k_) ∨ w.heap.size ≤ k_)) u9001_ r4 ∧ Below w0.heap.size w0 w' ∧ Kept w w' (fun k_ => P1_ k_ ∨ P2_ k_) := by
 have hu86 := Tryd.underlying86
 have HO1 := Aside0.mk (show Kd.R (Kd.int .u32) 89 w w0.heap.size (fun k_ => ((P1_ k_ ∨ P2_ k_) ∨ w.heap.size ≤ k_) ∧ some k_ ≠ (u9001_ : Value).ownBlock) u9000_ l1 from Kd.R_mono ho1 (fun k_ hk => ⟨(.inl (.inl hk)), fun e_ => hp1_2 k_ hk (ho2.1 k_ e_.symm)⟩))
 have HO2 := Aside0.mk (show Kd.R (Kd.int .u32) 89 w w0.heap.size (fun k_ => ((P1_ k_ ∨ P2_ k_) ∨ w.heap.size ≤ k_) ∧ some k_ ≠ (u9000_ : Value).ownBlock) u9001_ l2 from Kd.R_mono ho2 (fun k_ hk => ⟨(.inl (.inr hk)), fun e_ => hp2_1 k_ hk (ho1.1 k_ e_.symm)⟩))
 have HK := Aside0.mk (Kept.refl w (fun k_ => P1_ k_ ∨ P2_ k_))
 have HW0 := Aside0.mk hB.size
 have HB := Aside0.mk hB
 clear hB
 have H : ((numeralref12_format.f a0).bind fun bt349 => ((numeralref02_Length.f k l1).bind fun t351 => ((numeralref02_Length.f k l2).bind fun t352 => ((numeralref12_below.f k l1 l2 (wrap64 (t351 - t352))).bind fun t353 => (if t353 = true then (numeralref12_Fraction.j0 k a0 l1 l2 a3 a4 bt349.1 bt349.2 (wrap64 ((wrap64 (t351 - t352)) - 1))) else (numeralref12_Fraction.j0 k a0 l1 l2 a3 a4 bt349.1 bt349.2 (wrap64 (t351 - t352)))))))) = some (r1, r2, r3, r4) := h
 clear h
 replace H := Option.bind_eq_some_iff.mp H
 obtain ⟨⟨t349, t350⟩, A60, H⟩ := H
 replace H : ((numeralref02_Length.f k l1).bind fun t351 => ((numeralref02_Length.f k l2).bind fun t352 => ((numeralref12_below.f k l1 l2 (wrap64 (t351 - t352))).bind fun t353 => (if t353 = true then (numeralref12_Fraction.j0 k a0 l1 l2 a3 a4 t349 t350 (wrap64 ((wrap64 (t351 - t352)) - 1))) else (numeralref12_Fraction.j0 k a0 l1 l2 a3 a4 t349 t350 (wrap64 (t351 - t352))))))) = some (r1, r2, r3, r4) := H
 have A6 := Aside0.mk A60
 clear A60
 replace H := Option.bind_eq_some_iff.mp H
 obtain ⟨t351, A70, H⟩ := H
 replace H : ((numeralref02_Length.f k l2).bind fun t352 => ((numeralref12_below.f k l1 l2 (wrap64 (t351 - t352))).bind fun t353 => (if t353 = true then (numeralref12_Fraction.j0 k a0 l1 l2 a3 a4 t349 t350 (wrap64 ((wrap64 (t351 - t352)) - 1))) else (numeralref12_Fraction.j0 k a0 l1 l2 a3 a4 t349 t350 (wrap64 (t351 - t352)))))) = some (r1, r2, r3, r4) := H
 have A7 := Aside0.mk A70
 clear A70
 replace H := Option.bind_eq_some_iff.mp H
 obtain ⟨t352, A80, H⟩ := H
 replace H : ((numeralref12_below.f k l1 l2 (wrap64 (t351 - t352))).bind fun t353 => (if t353 = true then (numeralref12_Fraction.j0 k a0 l1 l2 a3 a4 t349 t350 (wrap64 ((wrap64 (t351 - t352)) - 1))) else (numeralref12_Fraction.j0 k a0 l1 l2 a3 a4 t349 t350 (wrap64 (t351 - t352))))) = some (r1, r2, r3, r4) := H
 have A8 := Aside0.mk A80
 clear A80
 replace H := Option.bind_eq_some_iff.mp H
 obtain ⟨t353, A90, H⟩ := H
 replace H : (if t353 = true then (numeralref12_Fraction.j0 k a0 l1 l2 a3 a4 t349 t350 (wrap64 ((wrap64 (t351 - t352)) - 1))) else (numeralref12_Fraction.j0 k a0 l1 l2 a3 a4 t349 t350 (wrap64 (t351 - t352)))) = some (r1, r2, r3, r4) := H
 have A9 := Aside0.mk A90
 clear A90
 have HC10 := Aside0.mk H
 clear H
 go_enter Tryd.func50, Tryd.ntmps50
 go_upto_if 37 with (first | ((with_reducible refine gate_callee (f := 59) rfl ?_); refine goesL_ (some 26) rfl rfl Tryd.func59 (by kernel_rfl) rfl #[.int .i64 a0] rfl (by (try simp only [List.map_toArray, List.map_cons, List.map_nil]); first | done | rfl | (simp only [List.length_drop, List.length_take]; rfl)) ?_; (with_reducible refine (numeralref12_format.calls a0 t349 t350 _ A6.out).mono ?_); rintro e w' ⟨rfl, ⟨nd, rfl⟩⟩; refine ⟨_, rfl, ?_⟩; obtain ⟨Ao11, co11, eo11⟩ := Kd.R_slice HO1.out; subst eo11) | ((with_reducible refine gate_callee (f := 60) rfl ?_); refine goesL_ (some 30) rfl rfl Tryd.func60 (by kernel_rfl) rfl #[.slice Ao11 l1.length co11] rfl (by (try simp only [List.map_toArray, List.map_cons, List.map_nil]); first | done | rfl | (simp only [List.length_drop, List.length_take]; rfl)) ?_; (with_reducible refine (numeralref02_Length.calls k _ _ l1 t351 _ ?side1 ?side2 A7.out).mono ?_); (case side1 => repeat (first | exact (Kd.R_reads' HO1.out).2.2 | (with_reducible refine Kd.C_alloc ?_ _) | (with_reducible refine Kd.C_drewN ?_ _) | (with_reducible refine Kd.C_drew ?_))); (case side2 => exact (Kd.R_reads' HO1.out).2.1); rintro e w' ⟨rfl, ⟨nd, rfl⟩⟩; refine ⟨_, rfl, ?_⟩; obtain ⟨Ao12, co12, eo12⟩ := Kd.R_slice HO2.out; subst eo12) | ((with_reducible refine gate_callee (f := 60) rfl ?_); refine goesL_ (some 32) rfl rfl Tryd.func60 (by kernel_rfl) rfl #[.slice Ao12 l2.length co12] rfl (by (try simp only [List.map_toArray, List.map_cons, List.map_nil]); first | done | rfl | (simp only [List.length_drop, List.length_take]; rfl)) ?_; (with_reducible refine (numeralref02_Length.calls k _ _ l2 t352 _ ?side1 ?side2 A8.out).mono ?_); (case side1 => repeat (first | exact (Kd.R_reads' HO2.out).2.2 | (with_reducible refine Kd.C_alloc ?_ _) | (with_reducible refine Kd.C_drewN ?_ _) | (with_reducible refine Kd.C_drew ?_))); (case side2 => exact (Kd.R_reads' HO2.out).2.1); rintro e w' ⟨rfl, ⟨nd, rfl⟩⟩; refine ⟨_, rfl, ?_⟩) | ((with_reducible refine gate_callee (f := 61) rfl ?_); refine goesL_ (some 37) rfl rfl Tryd.func61 (by kernel_rfl) rfl #[.slice Ao11 l1.length co11, .slice Ao12 l2.length co12, .int .i64 (wrap64 (t351 - t352))] rfl (by (try simp only [List.map_toArray, List.map_cons, List.map_nil]); first | done | rfl | (simp only [List.length_drop, List.length_take]; rfl)) ?_; (with_reducible refine (numeralref12_below.calls k _ _ l1 _ _ l2 (wrap64 (t351 - t352)) t353 _ ?side1 ?side2 ?side3 ?side4 A9.out).mono ?_); (case side1 => repeat (first | exact (Kd.R_reads' HO1.out).2.2 | (with_reducible refine Kd.C_alloc ?_ _) | (with_reducible refine Kd.C_drewN ?_ _) | (with_reducible refine Kd.C_drew ?_))); (case side2 => exact (Kd.R_reads' HO1.out).2.1); (case side3 => repeat (first | exact (Kd.R_reads' HO2.out).2.2 | (with_reducible refine Kd.C_alloc ?_ _) | (with_reducible refine Kd.C_drewN ?_ _) | (with_reducible refine Kd.C_drew ?_))); (case side4 => exact (Kd.R_reads' HO2.out).2.1); rintro e w13 ⟨rfl, hb⟩; refine ⟨_, rfl, ?_⟩; have n0_ := Aside0.mk (Kd.R_below (by (with_reducible repeat (first | apply Kd.R_alloc | apply Kd.R_drewN | apply Kd.R_drew)); exact HO1.out) hb); have n1_ := Aside0.mk (Kd.R_below (by (with_reducible repeat (first | apply Kd.R_alloc | apply Kd.R_drewN | apply Kd.R_drew)); exact HO2.out) hb); have n2_ := Aside0.mk (Kept.below (S := (fun k_ => P1_ k_ ∨ P2_ k_)) (by repeat (first | (with_reducible first | exact HK.out | apply Kept.alloc | apply Kept.drewN | apply Kept.drew) | exact HK.out)) hb); have n3_ := Aside0.mk (below_step (by repeat (first | (with_reducible first | exact HB.out | apply below_alloc | apply pw_below_drewN | apply below_drew1) | exact HB.out)) hb); clear HO1; clear HO2; clear HK; clear HB; have HO1 := n0_; have HO2 := n1_; have HK := n2_; have HB := n3_; clear n0_ n1_ n2_ n3_; (try clear hb); (try clear hb2); (try clear hk); (try clear hi)))
 (try simp only [Act.put, List.setIfInBounds_toArray, List.set_cons_zero, List.set_cons_succ])
 go_cut [14] (fun v14 wc => ∃ (kq : Nat) (x14_9 : Int), v14 = .int .i64 x14_9 ∧ Aside0 (numeralref12_Fraction.j0 kq a0 l1 l2 a3 a4 t349 t350 x14_9 = some (r1, r2, r3, r4)) ∧ Aside0 (kq ≤ k) ∧ Aside0 (Kd.R (Kd.int .u32) 89 wc w0.heap.size (fun k_ => ((P1_ k_ ∨ P2_ k_) ∨ w.heap.size ≤ k_) ∧ some k_ ≠ ((.slice Ao12 l2.length co12) : Value).ownBlock) (.slice Ao11 l1.length co11) l1) ∧ Aside0 (Kd.R (Kd.int .u32) 89 wc w0.heap.size (fun k_ => ((P1_ k_ ∨ P2_ k_) ∨ w.heap.size ≤ k_) ∧ some k_ ≠ ((.slice Ao11 l1.length co11) : Value).ownBlock) (.slice Ao12 l2.length co12) l2) ∧ Aside0 (Kept w wc (fun k_ => P1_ k_ ∨ P2_ k_)) ∧ Aside0 (Below w0.heap.size w0 wc))
 case first =>
  have H := HC10.out
  clear HC10
  by_cases c14 : t353 = true
  ·subst c14
   have H1 : (numeralref12_Fraction.j0 k a0 l1 l2 a3 a4 t349 t350 (wrap64 ((wrap64 (t351 - t352)) - 1))) = some (r1, r2, r3, r4) := by rw [if_pos rfl] at H; exact H
   clear H
   have H := H1
   clear H1
   have H' := Aside0.mk H
   clear H
   go_wp2
   go_meet
   case rel => exact ⟨_, (wrap64 ((wrap64 (t351 - t352)) - 1)), (by first | rfl | (simp; done) | (simp [*]; done)), H', ⟨by first | omega | exact Nat.le_refl _⟩, ⟨by (with_reducible repeat (first | apply Kd.R_alloc | apply Kd.R_drewN | apply Kd.R_drew)); exact HO1.out⟩, ⟨by (with_reducible repeat (first | apply Kd.R_alloc | apply Kd.R_drewN | apply Kd.R_drew)); exact HO2.out⟩, ⟨by repeat (first | (with_reducible first | exact HK.out | apply Kept.alloc | apply Kept.drewN | apply Kept.drew) | exact HK.out)⟩, ⟨by repeat (first | (with_reducible first | exact HB.out | apply below_alloc | apply pw_below_drewN | apply below_drew1) | exact HB.out)⟩⟩
  ·replace c14 := Bool.eq_false_iff.mpr c14
   subst c14
   have H1 : (numeralref12_Fraction.j0 k a0 l1 l2 a3 a4 t349 t350 (wrap64 (t351 - t352))) = some (r1, r2, r3, r4) := by rw [if_neg (show ¬ (false = true) by decide)] at H; exact H
   clear H
   have H := H1
   clear H1
   have H' := Aside0.mk H
   clear H
   go_wp2
   go_meet
   case rel => exact ⟨_, (wrap64 (t351 - t352)), (by first | rfl | (simp; done) | (simp [*]; done)), H', ⟨by first | omega | exact Nat.le_refl _⟩, ⟨by (with_reducible repeat (first | apply Kd.R_alloc | apply Kd.R_drewN | apply Kd.R_drew)); exact HO1.out⟩, ⟨by (with_reducible repeat (first | apply Kd.R_alloc | apply Kd.R_drewN | apply Kd.R_drew)); exact HO2.out⟩, ⟨by repeat (first | (with_reducible first | exact HK.out | apply Kept.alloc | apply Kept.drewN | apply Kept.drew) | exact HK.out)⟩, ⟨by repeat (first | (with_reducible first | exact HB.out | apply below_alloc | apply pw_below_drewN | apply below_drew1) | exact HB.out)⟩⟩
 case rest =>
  clear HC10
  try clear c1
  try clear p1
  try clear p2
  try clear c5
  try clear c6
  try clear p6
  try clear c14
  obtain ⟨kq, x14_9, rfl, HA, HJ9, HO_1, HO_2, HK, HB⟩ := hcut
  cases kq with
  | zero => exact absurd HA.out (by simp [numeralref12_Fraction.j0])
  | succ kj9 =>
   have H := HA.out
   clear HA
   simp only [numeralref12_Fraction.j0] at H
   obtain ⟨ji15, hji15⟩ : ∃ j_ : Int, (mx (wrap64 ((wrap64 ((wrap64 (x14_9 + a3)) - t349)) + 1)) t350) = j_ := ⟨_, rfl⟩
   replace H : (if (wrap64 (a3 - (ji15))) ≥ 0 then ((numeralref02_Up.f kj9 l1 (wrap64 (a3 - (ji15)))).bind fun t354 => (numeralref12_Fraction.j1 kj9 a0 l1 l2 a4 ji15 t354 l2)) else ((numeralref02_Up.f kj9 l2 (wrap64 (-(wrap64 (a3 - (ji15)))))).bind fun t357 => (numeralref12_Fraction.j1 kj9 a0 l1 l2 a4 ji15 l1 t357))) = some (r1, r2, r3, r4) := by first | (rw [hji15] at H; exact H) | (simp only [hji15] at H ⊢; exact H)
   have hji15_ : (if (wrap64 ((wrap64 ((wrap64 (x14_9 + a3)) - t349)) + 1)) < t350 then t350 else (wrap64 ((wrap64 ((wrap64 (x14_9 + a3)) - t349)) + 1))) = ji15 := hji15
   have HC16 := Aside0.mk H
   clear H
   go_upto_if 54 with (fail)
   go_cut [17, 18] (fun v17 v18 wc => ∃ (kq : Nat) (x17_15 : List Int) (x18_15 : List Int), Aside0 (numeralref12_Fraction.j1 kq a0 l1 l2 a4 ji15 x17_15 x18_15 = some (r1, r2, r3, r4)) ∧ Aside0 (kq ≤ kj9) ∧ Aside0 (Kd.R (Kd.int .u32) 89 wc w0.heap.size (fun k_ => ((P1_ k_ ∨ P2_ k_) ∨ w.heap.size ≤ k_) ∧ some k_ ≠ ((.slice Ao12 l2.length co12) : Value).ownBlock ∧ some k_ ≠ (v18 : Value).ownBlock) (.slice Ao11 l1.length co11) l1) ∧ Aside0 (Kd.R (Kd.int .u32) 89 wc w0.heap.size (fun k_ => ((P1_ k_ ∨ P2_ k_) ∨ w.heap.size ≤ k_) ∧ some k_ ≠ ((.slice Ao11 l1.length co11) : Value).ownBlock ∧ some k_ ≠ (v17 : Value).ownBlock) (.slice Ao12 l2.length co12) l2) ∧ Aside0 (Kd.R (Kd.int .u32) 89 wc w0.heap.size (fun k_ => ((P1_ k_ ∨ P2_ k_) ∨ w.heap.size ≤ k_) ∧ some k_ ≠ ((.slice Ao12 l2.length co12) : Value).ownBlock ∧ some k_ ≠ (v18 : Value).ownBlock) v17 x17_15) ∧ Aside0 (Kd.R (Kd.int .u32) 89 wc w0.heap.size (fun k_ => ((P1_ k_ ∨ P2_ k_) ∨ w.heap.size ≤ k_) ∧ some k_ ≠ ((.slice Ao11 l1.length co11) : Value).ownBlock ∧ some k_ ≠ (v17 : Value).ownBlock) v18 x18_15) ∧ Aside0 (Kept w wc (fun k_ => P1_ k_ ∨ P2_ k_)) ∧ Aside0 (Below w0.heap.size w0 wc))
   case first =>
    have H := HC16.out
    clear HC16
    by_cases c17 : (wrap64 (a3 - (ji15))) ≥ 0
    ·rw [if_pos c17] at H
     have c17b0 : decide (0 ≤ (wrap64 (a3 - (ji15)))) = true := decide_eq_true c17
     clear c17
     (first | rw [c17b0] | (simp only [i64_w, i32_w]; rw [c17b0]) | skip)
     replace H := Option.bind_eq_some_iff.mp H
     obtain ⟨t354, A180, H⟩ := H
     replace H : (numeralref12_Fraction.j1 kj9 a0 l1 l2 a4 ji15 t354 l2) = some (r1, r2, r3, r4) := H
     have A18 := Aside0.mk A180
     clear A180
     have H' := Aside0.mk H
     clear H
     go_wp2_with (first | ((with_reducible refine gate_callee (f := 62) rfl ?_); refine goesL_ (some 57) rfl rfl Tryd.func62 (by kernel_rfl) rfl #[.slice Ao11 l1.length co11, .int .i64 (wrap64 (a3 - (ji15)))] rfl (by (try simp only [List.map_toArray, List.map_cons, List.map_nil]); first | done | (simp only [hji15]; rfl) | rfl | (simp only [List.length_drop, List.length_take]; rfl)) ?_; (with_reducible refine (numeralref02_Up.calls kj9 _ _ l1 (wrap64 (a3 - (ji15))) t354 _ ?side1 ?side2 A18.out).mono ?_); (case side1 => repeat (first | exact (Kd.R_reads' HO_1.out).2.2 | (with_reducible refine Kd.C_alloc ?_ _) | (with_reducible refine Kd.C_drewN ?_ _) | (with_reducible refine Kd.C_drew ?_))); (case side2 => exact (Kd.R_reads' HO_1.out).2.1); rintro e w19 ⟨v355, rfl, ho0, hb⟩; refine ⟨_, rfl, ?_⟩; have n0_ := Aside0.mk (Kd.R_elder' (by (with_reducible repeat (first | apply Kd.R_alloc | apply Kd.R_drewN | apply Kd.R_drew)); exact HO_1.out) (Kd.R_base ho0) hb); have n1_ := Aside0.mk (Kd.R_elder' (by (with_reducible repeat (first | apply Kd.R_alloc | apply Kd.R_drewN | apply Kd.R_drew)); exact HO_2.out) (Kd.R_base ho0) hb); have n2_ := Aside0.mk (Kd.R_lower (Kd.R_new' (Kd.R_new' (Kd.R_newM (M := fun k_ => ((P1_ k_ ∨ P2_ k_) ∨ w.heap.size ≤ k_)) ho0 (by first | exact HK.out.1 | exact (show Kept w _ (fun k_ => P1_ k_ ∨ P2_ k_) from by repeat (first | (with_reducible first | exact HK.out | apply Kept.alloc | apply Kept.drewN | apply Kept.drew) | exact HK.out)).1) (fun k_ h_ => .inr h_)) (Kd.R_lt (by (with_reducible repeat (first | apply Kd.R_alloc | apply Kd.R_drewN | apply Kd.R_drew)); exact HO_1.out))) (Kd.R_lt (by (with_reducible repeat (first | apply Kd.R_alloc | apply Kd.R_drewN | apply Kd.R_drew)); exact HO_2.out))) (below_size (by repeat (first | (with_reducible first | exact HB.out | apply below_alloc | apply pw_below_drewN | apply below_drew1) | exact HB.out)))); have n3_ := Aside0.mk (Kept.below (S := (fun k_ => P1_ k_ ∨ P2_ k_)) (by repeat (first | (with_reducible first | exact HK.out | apply Kept.alloc | apply Kept.drewN | apply Kept.drew) | exact HK.out)) hb); have n4_ := Aside0.mk (below_step (by repeat (first | (with_reducible first | exact HB.out | apply below_alloc | apply pw_below_drewN | apply below_drew1) | exact HB.out)) hb); clear HO_1; clear HO_2; clear HK; clear HB; have HO_1 := n0_; have HO_2 := n1_; have HO356 := n2_; have HK := n3_; have HB := n4_; clear n0_ n1_ n2_ n3_ n4_; (try clear hb); (try clear hb2); (try clear hk); (try clear hi); (try clear ho0)))
     go_meet
     case rel => exact ⟨_, (t354), (l2), H', ⟨by have := HJ9.out; first | omega | exact Nat.le_refl _⟩, ⟨by (with_reducible repeat (first | apply Kd.R_alloc | apply Kd.R_drewN | apply Kd.R_drew)); exact Kd.R_mono HO_1.out (fun _ hk => by first | exact ⟨hk.1.1, ⟨hk.1.2, ⟨hk.2, hk.1.2⟩⟩⟩ | ((repeat' apply And.intro) <;> first | exact hk.1.1.1.1 | exact hk.1.1.1.2 | exact hk.1.1.1 | exact hk.1.1.2 | exact hk.1.1 | exact hk.1.2 | exact hk.2 | exact hk.2.1 | exact hk.2.2 | exact hk.1 | exact hk))⟩, ⟨by (with_reducible repeat (first | apply Kd.R_alloc | apply Kd.R_drewN | apply Kd.R_drew)); exact Kd.R_mono HO_2.out (fun _ hk => by first | exact ⟨hk.1.1, ⟨hk.1.2, hk.2⟩⟩ | ((repeat' apply And.intro) <;> first | exact hk.1.1.1.1 | exact hk.1.1.1.2 | exact hk.1.1.1 | exact hk.1.1.2 | exact hk.1.1 | exact hk.1.2 | exact hk.2 | exact hk.2.1 | exact hk.2.2 | exact hk.1 | exact hk))⟩, ⟨by (with_reducible repeat (first | apply Kd.R_alloc | apply Kd.R_drewN | apply Kd.R_drew)); exact Kd.R_mono HO356.out (fun _ hk => by first | exact ⟨hk.1.1.1, ⟨hk.1.2, ⟨hk.2, hk.2⟩⟩⟩ | ((repeat' apply And.intro) <;> first | exact hk.1.1.1.1 | exact hk.1.1.1.2 | exact hk.1.1.1 | exact hk.1.1.2 | exact hk.1.1 | exact hk.1.2 | exact hk.2 | exact hk.2.1 | exact hk.2.2 | exact hk.1 | exact hk))⟩, ⟨by (with_reducible repeat (first | apply Kd.R_alloc | apply Kd.R_drewN | apply Kd.R_drew)); exact Kd.R_mono HO_2.out (fun _ hk => by first | exact ⟨hk.1.1, ⟨hk.1.2, hk.2⟩⟩ | ((repeat' apply And.intro) <;> first | exact hk.1.1.1.1 | exact hk.1.1.1.2 | exact hk.1.1.1 | exact hk.1.1.2 | exact hk.1.1 | exact hk.1.2 | exact hk.2 | exact hk.2.1 | exact hk.2.2 | exact hk.1 | exact hk))⟩, ⟨by repeat (first | (with_reducible first | exact HK.out | apply Kept.alloc | apply Kept.drewN | apply Kept.drew) | exact HK.out)⟩, ⟨by repeat (first | (with_reducible first | exact HB.out | apply below_alloc | apply pw_below_drewN | apply below_drew1) | exact HB.out)⟩⟩
    ·rw [if_neg c17] at H
     have c17b0 : decide (0 ≤ (wrap64 (a3 - (ji15)))) = false := decide_eq_false c17
     clear c17
     (first | rw [c17b0] | (simp only [i64_w, i32_w]; rw [c17b0]) | skip)
     replace H := Option.bind_eq_some_iff.mp H
     obtain ⟨t357, A200, H⟩ := H
     replace H : (numeralref12_Fraction.j1 kj9 a0 l1 l2 a4 ji15 l1 t357) = some (r1, r2, r3, r4) := H
     have A20 := Aside0.mk A200
     clear A200
     have H' := Aside0.mk H
     clear H
     go_wp2_with (first | ((with_reducible refine gate_callee (f := 62) rfl ?_); refine goesL_ (some 61) rfl rfl Tryd.func62 (by kernel_rfl) rfl #[.slice Ao12 l2.length co12, .int .i64 (wrap64 (-(wrap64 (a3 - (ji15)))))] rfl (by (try simp only [List.map_toArray, List.map_cons, List.map_nil]); first | done | (simp only [hji15]; rfl) | rfl | (simp only [List.length_drop, List.length_take]; rfl)) ?_; (with_reducible refine (numeralref02_Up.calls kj9 _ _ l2 (wrap64 (-(wrap64 (a3 - (ji15))))) t357 _ ?side1 ?side2 A20.out).mono ?_); (case side1 => repeat (first | exact (Kd.R_reads' HO_2.out).2.2 | (with_reducible refine Kd.C_alloc ?_ _) | (with_reducible refine Kd.C_drewN ?_ _) | (with_reducible refine Kd.C_drew ?_))); (case side2 => exact (Kd.R_reads' HO_2.out).2.1); rintro e w21 ⟨v358, rfl, ho0, hb⟩; refine ⟨_, rfl, ?_⟩; have n0_ := Aside0.mk (Kd.R_elder' (by (with_reducible repeat (first | apply Kd.R_alloc | apply Kd.R_drewN | apply Kd.R_drew)); exact HO_1.out) (Kd.R_base ho0) hb); have n1_ := Aside0.mk (Kd.R_elder' (by (with_reducible repeat (first | apply Kd.R_alloc | apply Kd.R_drewN | apply Kd.R_drew)); exact HO_2.out) (Kd.R_base ho0) hb); have n2_ := Aside0.mk (Kd.R_lower (Kd.R_new' (Kd.R_new' (Kd.R_newM (M := fun k_ => ((P1_ k_ ∨ P2_ k_) ∨ w.heap.size ≤ k_)) ho0 (by first | exact HK.out.1 | exact (show Kept w _ (fun k_ => P1_ k_ ∨ P2_ k_) from by repeat (first | (with_reducible first | exact HK.out | apply Kept.alloc | apply Kept.drewN | apply Kept.drew) | exact HK.out)).1) (fun k_ h_ => .inr h_)) (Kd.R_lt (by (with_reducible repeat (first | apply Kd.R_alloc | apply Kd.R_drewN | apply Kd.R_drew)); exact HO_1.out))) (Kd.R_lt (by (with_reducible repeat (first | apply Kd.R_alloc | apply Kd.R_drewN | apply Kd.R_drew)); exact HO_2.out))) (below_size (by repeat (first | (with_reducible first | exact HB.out | apply below_alloc | apply pw_below_drewN | apply below_drew1) | exact HB.out)))); have n3_ := Aside0.mk (Kept.below (S := (fun k_ => P1_ k_ ∨ P2_ k_)) (by repeat (first | (with_reducible first | exact HK.out | apply Kept.alloc | apply Kept.drewN | apply Kept.drew) | exact HK.out)) hb); have n4_ := Aside0.mk (below_step (by repeat (first | (with_reducible first | exact HB.out | apply below_alloc | apply pw_below_drewN | apply below_drew1) | exact HB.out)) hb); clear HO_1; clear HO_2; clear HK; clear HB; have HO_1 := n0_; have HO_2 := n1_; have HO359 := n2_; have HK := n3_; have HB := n4_; clear n0_ n1_ n2_ n3_ n4_; (try clear hb); (try clear hb2); (try clear hk); (try clear hi); (try clear ho0)))
     go_meet
     case rel => exact ⟨_, (l1), (t357), H', ⟨by have := HJ9.out; first | omega | exact Nat.le_refl _⟩, ⟨by (with_reducible repeat (first | apply Kd.R_alloc | apply Kd.R_drewN | apply Kd.R_drew)); exact Kd.R_mono HO_1.out (fun _ hk => by first | exact ⟨hk.1.1, ⟨hk.1.2, hk.2⟩⟩ | ((repeat' apply And.intro) <;> first | exact hk.1.1.1.1 | exact hk.1.1.1.2 | exact hk.1.1.1 | exact hk.1.1.2 | exact hk.1.1 | exact hk.1.2 | exact hk.2 | exact hk.2.1 | exact hk.2.2 | exact hk.1 | exact hk))⟩, ⟨by (with_reducible repeat (first | apply Kd.R_alloc | apply Kd.R_drewN | apply Kd.R_drew)); exact Kd.R_mono HO_2.out (fun _ hk => by first | exact ⟨hk.1.1, ⟨hk.1.2, ⟨hk.1.2, hk.2⟩⟩⟩ | ((repeat' apply And.intro) <;> first | exact hk.1.1.1.1 | exact hk.1.1.1.2 | exact hk.1.1.1 | exact hk.1.1.2 | exact hk.1.1 | exact hk.1.2 | exact hk.2 | exact hk.2.1 | exact hk.2.2 | exact hk.1 | exact hk))⟩, ⟨by (with_reducible repeat (first | apply Kd.R_alloc | apply Kd.R_drewN | apply Kd.R_drew)); exact Kd.R_mono HO_1.out (fun _ hk => by first | exact ⟨hk.1.1, ⟨hk.1.2, hk.2⟩⟩ | ((repeat' apply And.intro) <;> first | exact hk.1.1.1.1 | exact hk.1.1.1.2 | exact hk.1.1.1 | exact hk.1.1.2 | exact hk.1.1 | exact hk.1.2 | exact hk.2 | exact hk.2.1 | exact hk.2.2 | exact hk.1 | exact hk))⟩, ⟨by (with_reducible repeat (first | apply Kd.R_alloc | apply Kd.R_drewN | apply Kd.R_drew)); exact Kd.R_mono HO359.out (fun _ hk => by first | exact ⟨hk.1.1.1, ⟨hk.1.2, ⟨hk.2, hk.1.2⟩⟩⟩ | ((repeat' apply And.intro) <;> first | exact hk.1.1.1.1 | exact hk.1.1.1.2 | exact hk.1.1.1 | exact hk.1.1.2 | exact hk.1.1 | exact hk.1.2 | exact hk.2 | exact hk.2.1 | exact hk.2.2 | exact hk.1 | exact hk))⟩, ⟨by repeat (first | (with_reducible first | exact HK.out | apply Kept.alloc | apply Kept.drewN | apply Kept.drew) | exact HK.out)⟩, ⟨by repeat (first | (with_reducible first | exact HB.out | apply below_alloc | apply pw_below_drewN | apply below_drew1) | exact HB.out)⟩⟩
   case rest =>
    clear HC16
    try clear c1
    try clear p1
    try clear p2
    try clear c5
    try clear c6
    try clear p6
    try clear c14
    try clear c17
    try clear c17b0
    try clear p1
    try clear p2
    try clear p6
    obtain ⟨kq, x17_15, x18_15, HA, HJ15, HO_1, HO_2, HO_17, HO_18, HK, HB⟩ := hcut
    cases kq with
    | zero => exact absurd HA.out (by simp [numeralref12_Fraction.j1])
    | succ kj15 =>
     have H := HA.out
     clear HA
     simp only [numeralref12_Fraction.j1] at H
     replace H := Option.bind_eq_some_iff.mp H
     obtain ⟨⟨t360, t363⟩, A220, H⟩ := H
     replace H : ((numeralref02_Up.f kj15 t363 1).bind fun t366 => ((numeralref02_Compare.f kj15 t366 x18_15).bind fun t369 => (if t369 > 0 then (numeralref12_Fraction.j2 kj15 a0 l1 l2 ji15 t360 true) else (if t369 = 0 then (if a4 = true then (numeralref12_Fraction.j2 kj15 a0 l1 l2 ji15 t360 true) else ((numeralref02_Bit.f t360 0).bind fun t370 => (numeralref12_Fraction.j2 kj15 a0 l1 l2 ji15 t360 t370))) else (numeralref12_Fraction.j2 kj15 a0 l1 l2 ji15 t360 false))))) = some (r1, r2, r3, r4) := H
     have A22 := Aside0.mk A220
     clear A220
     replace H := Option.bind_eq_some_iff.mp H
     obtain ⟨t366, A230, H⟩ := H
     replace H : ((numeralref02_Compare.f kj15 t366 x18_15).bind fun t369 => (if t369 > 0 then (numeralref12_Fraction.j2 kj15 a0 l1 l2 ji15 t360 true) else (if t369 = 0 then (if a4 = true then (numeralref12_Fraction.j2 kj15 a0 l1 l2 ji15 t360 true) else ((numeralref02_Bit.f t360 0).bind fun t370 => (numeralref12_Fraction.j2 kj15 a0 l1 l2 ji15 t360 t370))) else (numeralref12_Fraction.j2 kj15 a0 l1 l2 ji15 t360 false)))) = some (r1, r2, r3, r4) := H
     have A23 := Aside0.mk A230
     clear A230
     replace H := Option.bind_eq_some_iff.mp H
     obtain ⟨t369, A240, H⟩ := H
     replace H : (if t369 > 0 then (numeralref12_Fraction.j2 kj15 a0 l1 l2 ji15 t360 true) else (if t369 = 0 then (if a4 = true then (numeralref12_Fraction.j2 kj15 a0 l1 l2 ji15 t360 true) else ((numeralref02_Bit.f t360 0).bind fun t370 => (numeralref12_Fraction.j2 kj15 a0 l1 l2 ji15 t360 t370))) else (numeralref12_Fraction.j2 kj15 a0 l1 l2 ji15 t360 false))) = some (r1, r2, r3, r4) := H
     have A24 := Aside0.mk A240
     clear A240
     have HC25 := Aside0.mk H
     clear H
     obtain ⟨Ao26, co26, eo26⟩ := Kd.R_slice HO_17.out
     subst eo26
     obtain ⟨Ao27, co27, eo27⟩ := Kd.R_slice HO_18.out
     subst eo27
     go_upto_region 13 with (first | ((with_reducible refine gate_callee (f := 63) rfl ?_); refine goesL_ (some 65) rfl rfl Tryd.func63 (by kernel_rfl) rfl #[.slice Ao26 x17_15.length co26, .slice Ao27 x18_15.length co27] rfl (by (try simp only [List.map_toArray, List.map_cons, List.map_nil]); first | done | rfl | (simp only [List.length_drop, List.length_take]; rfl)) ?_; (with_reducible refine (numeralref02_Over.calls kj15 (fun k_ => some k_ = (.slice Ao26 x17_15.length co26 : Value).ownBlock) _ _ x17_15 _ _ x18_15 t360 t363 _ ?side1 ?side2 ?side3 A22.out).mono ?_); (case side1 => exact Kd.R_V (Kd.R_tight rfl (HO_17.out))); (case side2 => repeat (first | exact (Kd.R_reads' HO_18.out).2.2 | (with_reducible refine Kd.C_alloc ?_ _) | (with_reducible refine Kd.C_drewN ?_ _) | (with_reducible refine Kd.C_drew ?_))); (case side3 => exact (Kd.R_reads' HO_18.out).2.1); rintro e w28 ⟨v361, v364, rfl, ho0, ho1, hb⟩; refine ⟨_, rfl, ?_⟩; have n0_ := Aside0.mk (Kd.R_elder' (by (with_reducible repeat (first | apply Kd.R_alloc | apply Kd.R_drewN | apply Kd.R_drew)); exact HO_1.out) (Kd.R_base ho0) hb); have n1_ := Aside0.mk (Kd.R_elder' (by (with_reducible repeat (first | apply Kd.R_alloc | apply Kd.R_drewN | apply Kd.R_drew)); exact HO_2.out) (Kd.R_base ho0) hb); have n2_ := Aside0.mk (Kd.R_elder' (by (with_reducible repeat (first | apply Kd.R_alloc | apply Kd.R_drewN | apply Kd.R_drew)); exact HO_17.out) (Kd.R_base ho0) hb); have n3_ := Aside0.mk (Kd.R_elder' (by (with_reducible repeat (first | apply Kd.R_alloc | apply Kd.R_drewN | apply Kd.R_drew)); exact HO_18.out) (Kd.R_base ho0) hb); have n4_ := Aside0.mk (Kd.R_lower (Kd.R_new' (Kd.R_new' (Kd.R_new' (Kd.R_new' (Kd.R_newM (M := fun k_ => ((P1_ k_ ∨ P2_ k_) ∨ w.heap.size ≤ k_)) (Kd.R_mono (ok' := fun k_ => True) ho0 (fun _ hk_ => trivial)) (by first | exact HK.out.1 | exact (show Kept w _ (fun k_ => P1_ k_ ∨ P2_ k_) from by repeat (first | (with_reducible first | exact HK.out | apply Kept.alloc | apply Kept.drewN | apply Kept.drew) | exact HK.out)).1) (fun k_ h_ => .inr h_)) (Kd.R_lt (by (with_reducible repeat (first | apply Kd.R_alloc | apply Kd.R_drewN | apply Kd.R_drew)); exact HO_1.out))) (Kd.R_lt (by (with_reducible repeat (first | apply Kd.R_alloc | apply Kd.R_drewN | apply Kd.R_drew)); exact HO_2.out))) (Kd.R_lt (by (with_reducible repeat (first | apply Kd.R_alloc | apply Kd.R_drewN | apply Kd.R_drew)); exact HO_17.out))) (Kd.R_lt (by (with_reducible repeat (first | apply Kd.R_alloc | apply Kd.R_drewN | apply Kd.R_drew)); exact HO_18.out))) (below_size (by repeat (first | (with_reducible first | exact HB.out | apply below_alloc | apply pw_below_drewN | apply below_drew1) | exact HB.out)))); have n5_ := Aside0.mk (Kd.V_lower (Kd.V_mono (ok' := fun k_ => ((P1_ k_ ∨ P2_ k_) ∨ w.heap.size ≤ k_) ∧ some k_ ≠ (v361 : Value).ownBlock ∧ some k_ ≠ (.slice Ao12 l2.length co12 : Value).ownBlock ∧ some k_ ≠ (.slice Ao27 x18_15.length co27 : Value).ownBlock) ho1 (fun k_ hk_ => ⟨Or.elim hk_.1 (fun hs_ => ((HO_17.out).1 k_ hs_.symm).1) (fun hn_ => (.inr (Nat.le_trans (by first | exact HK.out.1 | exact (show Kept w _ (fun k_ => P1_ k_ ∨ P2_ k_) from by repeat (first | (with_reducible first | exact HK.out | apply Kept.alloc | apply Kept.drewN | apply Kept.drew) | exact HK.out)).1) hn_))), hk_.2, Or.elim hk_.1 (fun hs_ => ((HO_17.out).1 k_ hs_.symm).2.1) (fun hn_ => (Kd.fresh' (Kd.R_lt (by (with_reducible repeat (first | apply Kd.R_alloc | apply Kd.R_drewN | apply Kd.R_drew)); exact HO_2.out)) k_ hn_)), Or.elim hk_.1 (fun hs_ => ((HO_17.out).1 k_ hs_.symm).2.2) (fun hn_ => (Kd.fresh' (Kd.R_lt (by (with_reducible repeat (first | apply Kd.R_alloc | apply Kd.R_drewN | apply Kd.R_drew)); exact HO_18.out)) k_ hn_))⟩)) (below_size (by repeat (first | (with_reducible first | exact HB.out | apply below_alloc | apply pw_below_drewN | apply below_drew1) | exact HB.out)))); have n6_ := Aside0.mk (Kept.below (S := (fun k_ => P1_ k_ ∨ P2_ k_)) (by repeat (first | (with_reducible first | exact HK.out | apply Kept.alloc | apply Kept.drewN | apply Kept.drew) | exact HK.out)) hb); have n7_ := Aside0.mk (below_step (by repeat (first | (with_reducible first | exact HB.out | apply below_alloc | apply pw_below_drewN | apply below_drew1) | exact HB.out)) hb); clear HO_1; clear HO_2; clear HO_17; clear HO_18; clear HK; clear HB; have HO_1 := n0_; have HO_2 := n1_; have HO_17 := n2_; have HO_18 := n3_; have HO362 := n4_; have HO365 := n5_; have HK := n6_; have HB := n7_; clear n0_ n1_ n2_ n3_ n4_ n5_ n6_ n7_; (try clear hb); (try clear hb2); (try clear hk); (try clear hi); (try clear ho0); (try clear ho1); obtain ⟨Ao29, co29, eo29⟩ := Kd.V_slice HO365.out; subst eo29) | ((with_reducible refine gate_callee (f := 62) rfl ?_); refine goesL_ (some 69) rfl rfl Tryd.func62 (by kernel_rfl) rfl #[.slice Ao29 t363.length co29, .int .i64 1] rfl (by (try simp only [List.map_toArray, List.map_cons, List.map_nil]); first | done | rfl | (simp only [List.length_drop, List.length_take]; rfl)) ?_; (with_reducible refine (numeralref02_Up.calls kj15 _ _ t363 1 t366 _ ?side1 ?side2 A23.out).mono ?_); (case side1 => repeat (first | exact (Kd.V_reads' HO365.out).2.2 | (with_reducible refine Kd.C_alloc ?_ _) | (with_reducible refine Kd.C_drewN ?_ _) | (with_reducible refine Kd.C_drew ?_))); (case side2 => exact (Kd.V_reads' HO365.out).2.1); rintro e w30 ⟨v367, rfl, ho0, hb⟩; refine ⟨_, rfl, ?_⟩; have n0_ := Aside0.mk (Kd.R_elder' (by (with_reducible repeat (first | apply Kd.R_alloc | apply Kd.R_drewN | apply Kd.R_drew)); exact HO_1.out) (Kd.R_base ho0) hb); have n1_ := Aside0.mk (Kd.R_elder' (by (with_reducible repeat (first | apply Kd.R_alloc | apply Kd.R_drewN | apply Kd.R_drew)); exact HO_2.out) (Kd.R_base ho0) hb); have n2_ := Aside0.mk (Kd.R_elder' (by (with_reducible repeat (first | apply Kd.R_alloc | apply Kd.R_drewN | apply Kd.R_drew)); exact HO_17.out) (Kd.R_base ho0) hb); have n3_ := Aside0.mk (Kd.R_elder' (by (with_reducible repeat (first | apply Kd.R_alloc | apply Kd.R_drewN | apply Kd.R_drew)); exact HO_18.out) (Kd.R_base ho0) hb); have n4_ := Aside0.mk (Kd.R_elder' (by (with_reducible repeat (first | apply Kd.R_alloc | apply Kd.R_drewN | apply Kd.R_drew)); exact HO362.out) (Kd.R_base ho0) hb); have n5_ := Aside0.mk (Kd.V_elder' (by (with_reducible repeat (first | apply Kd.V_alloc | apply Kd.V_drewN | apply Kd.V_drew)); exact HO365.out) (Kd.R_base ho0) hb); have n6_ := Aside0.mk (Kd.R_lower (Kd.R_new' (Kd.R_new' (Kd.R_new' (Kd.R_new' (Kd.R_new' (Kd.R_newM (M := fun k_ => ((P1_ k_ ∨ P2_ k_) ∨ w.heap.size ≤ k_)) ho0 (by first | exact HK.out.1 | exact (show Kept w _ (fun k_ => P1_ k_ ∨ P2_ k_) from by repeat (first | (with_reducible first | exact HK.out | apply Kept.alloc | apply Kept.drewN | apply Kept.drew) | exact HK.out)).1) (fun k_ h_ => .inr h_)) (Kd.R_lt (by (with_reducible repeat (first | apply Kd.R_alloc | apply Kd.R_drewN | apply Kd.R_drew)); exact HO_1.out))) (Kd.R_lt (by (with_reducible repeat (first | apply Kd.R_alloc | apply Kd.R_drewN | apply Kd.R_drew)); exact HO_2.out))) (Kd.R_lt (by (with_reducible repeat (first | apply Kd.R_alloc | apply Kd.R_drewN | apply Kd.R_drew)); exact HO_17.out))) (Kd.R_lt (by (with_reducible repeat (first | apply Kd.R_alloc | apply Kd.R_drewN | apply Kd.R_drew)); exact HO_18.out))) (Kd.R_lt (by (with_reducible repeat (first | apply Kd.R_alloc | apply Kd.R_drewN | apply Kd.R_drew)); exact HO362.out))) (below_size (by repeat (first | (with_reducible first | exact HB.out | apply below_alloc | apply pw_below_drewN | apply below_drew1) | exact HB.out)))); have n7_ := Aside0.mk (Kept.below (S := (fun k_ => P1_ k_ ∨ P2_ k_)) (by repeat (first | (with_reducible first | exact HK.out | apply Kept.alloc | apply Kept.drewN | apply Kept.drew) | exact HK.out)) hb); have n8_ := Aside0.mk (below_step (by repeat (first | (with_reducible first | exact HB.out | apply below_alloc | apply pw_below_drewN | apply below_drew1) | exact HB.out)) hb); clear HO_1; clear HO_2; clear HO_17; clear HO_18; clear HO362; clear HO365; clear HK; clear HB; have HO_1 := n0_; have HO_2 := n1_; have HO_17 := n2_; have HO_18 := n3_; have HO362 := n4_; have HO365 := n5_; have HO368 := n6_; have HK := n7_; have HB := n8_; clear n0_ n1_ n2_ n3_ n4_ n5_ n6_ n7_ n8_; (try clear hb); (try clear hb2); (try clear hk); (try clear hi); (try clear ho0); obtain ⟨Ao31, co31, eo31⟩ := Kd.R_slice HO368.out; subst eo31) | ((with_reducible refine gate_callee (f := 64) rfl ?_); refine goesL_ (some 71) rfl rfl Tryd.func64 (by kernel_rfl) rfl #[.slice Ao31 t366.length co31, .slice Ao27 x18_15.length co27] rfl (by (try simp only [List.map_toArray, List.map_cons, List.map_nil]); first | done | rfl | (simp only [List.length_drop, List.length_take]; rfl)) ?_; (with_reducible refine (numeralref02_Compare.calls kj15 _ _ t366 _ _ x18_15 t369 _ ?side1 ?side2 ?side3 ?side4 A24.out).mono ?_); (case side1 => repeat (first | exact (Kd.R_reads' HO368.out).2.2 | (with_reducible refine Kd.C_alloc ?_ _) | (with_reducible refine Kd.C_drewN ?_ _) | (with_reducible refine Kd.C_drew ?_))); (case side2 => exact (Kd.R_reads' HO368.out).2.1); (case side3 => repeat (first | exact (Kd.R_reads' HO_18.out).2.2 | (with_reducible refine Kd.C_alloc ?_ _) | (with_reducible refine Kd.C_drewN ?_ _) | (with_reducible refine Kd.C_drew ?_))); (case side4 => exact (Kd.R_reads' HO_18.out).2.1); rintro e w' ⟨rfl, ⟨nd, rfl⟩⟩; refine ⟨_, rfl, ?_⟩))
     (try simp only [Act.put, List.setIfInBounds_toArray, List.set_cons_zero, List.set_cons_succ])
     go_cut [84] (fun v84 wc => ∃ (kq : Nat) (x84_24 : Bool), v84 = .bool x84_24 ∧ Aside0 (numeralref12_Fraction.j2 kq a0 l1 l2 ji15 t360 x84_24 = some (r1, r2, r3, r4)) ∧ Aside0 (kq ≤ kj15) ∧ Aside0 (Kd.R (Kd.int .u32) 89 wc w0.heap.size (fun k_ => ((P1_ k_ ∨ P2_ k_) ∨ w.heap.size ≤ k_) ∧ some k_ ≠ ((.slice Ao12 l2.length co12) : Value).ownBlock ∧ some k_ ≠ (v361 : Value).ownBlock) (.slice Ao11 l1.length co11) l1) ∧ Aside0 (Kd.R (Kd.int .u32) 89 wc w0.heap.size (fun k_ => ((P1_ k_ ∨ P2_ k_) ∨ w.heap.size ≤ k_) ∧ some k_ ≠ ((.slice Ao11 l1.length co11) : Value).ownBlock ∧ some k_ ≠ (v361 : Value).ownBlock) (.slice Ao12 l2.length co12) l2) ∧ Aside0 (Kd.R (Kd.int .u32) 89 wc w0.heap.size (fun k_ => ((P1_ k_ ∨ P2_ k_) ∨ w.heap.size ≤ k_) ∧ some k_ ≠ ((.slice Ao11 l1.length co11) : Value).ownBlock ∧ some k_ ≠ ((.slice Ao12 l2.length co12) : Value).ownBlock) v361 t360) ∧ Aside0 (Kept w wc (fun k_ => P1_ k_ ∨ P2_ k_)) ∧ Aside0 (Below w0.heap.size w0 wc))
     case first =>
      have H := HC25.out
      clear HC25
      by_cases c32 : t369 > 0
      ·rw [if_pos c32] at H
       have c32b0 : decide (0 < t369) = true := decide_eq_true c32
       clear c32
       (first | rw [c32b0] | (simp only [i64_w, i32_w]; rw [c32b0]) | skip)
       have H' := Aside0.mk H
       clear H
       go_wp2
       go_meet
       case rel => exact ⟨_, (true), (by first | rfl | (simp; done) | (simp [*]; done)), H', ⟨by have := HJ9.out; have := HJ15.out; first | omega | exact Nat.le_refl _⟩, ⟨by (with_reducible repeat (first | apply Kd.R_alloc | apply Kd.R_drewN | apply Kd.R_drew)); exact Kd.R_mono HO_1.out (fun _ hk => by first | exact ⟨hk.1.1.1, ⟨hk.1.1.2.1, hk.1.2⟩⟩ | ((repeat' apply And.intro) <;> first | exact hk.1.1.1.1 | exact hk.1.1.1.2 | exact hk.1.1.1 | exact hk.1.1.2 | exact hk.1.1 | exact hk.1.2 | exact hk.2 | exact hk.2.1 | exact hk.2.2 | exact hk.1 | exact hk))⟩, ⟨by (with_reducible repeat (first | apply Kd.R_alloc | apply Kd.R_drewN | apply Kd.R_drew)); exact Kd.R_mono HO_2.out (fun _ hk => by first | exact ⟨hk.1.1.1, ⟨hk.1.1.2.1, hk.1.2⟩⟩ | ((repeat' apply And.intro) <;> first | exact hk.1.1.1.1 | exact hk.1.1.1.2 | exact hk.1.1.1 | exact hk.1.1.2 | exact hk.1.1 | exact hk.1.2 | exact hk.2 | exact hk.2.1 | exact hk.2.2 | exact hk.1 | exact hk))⟩, ⟨by (with_reducible repeat (first | apply Kd.R_alloc | apply Kd.R_drewN | apply Kd.R_drew)); exact Kd.R_mono HO362.out (fun _ hk => by first | exact ⟨hk.1.1.1.1.1.1, ⟨hk.1.1.1.1.2, hk.1.1.1.2⟩⟩ | ((repeat' apply And.intro) <;> first | exact hk.1.1.1.1 | exact hk.1.1.1.2 | exact hk.1.1.1 | exact hk.1.1.2 | exact hk.1.1 | exact hk.1.2 | exact hk.2 | exact hk.2.1 | exact hk.2.2 | exact hk.1 | exact hk))⟩, ⟨by repeat (first | (with_reducible first | exact HK.out | apply Kept.alloc | apply Kept.drewN | apply Kept.drew) | exact HK.out)⟩, ⟨by repeat (first | (with_reducible first | exact HB.out | apply below_alloc | apply pw_below_drewN | apply below_drew1) | exact HB.out)⟩⟩
      ·rw [if_neg c32] at H
       have c32b0 : decide (0 < t369) = false := decide_eq_false c32
       clear c32
       (first | rw [c32b0] | (simp only [i64_w, i32_w]; rw [c32b0]) | skip)
       by_cases c33 : t369 = 0
       ·rw [if_pos c33] at H
        have c33b0 : (t369 == 0) = true := beq_iff_eq.mpr c33
        have c33b1 : (t369 != 0) = false := bne_eq_false_iff_eq.mpr c33
        clear c33
        by_cases c34 : a4 = true
        ·subst c34
         have H1 : (numeralref12_Fraction.j2 kj15 a0 l1 l2 ji15 t360 true) = some (r1, r2, r3, r4) := by rw [if_pos rfl] at H; exact H
         clear H
         have H := H1
         clear H1
         have H' := Aside0.mk H
         clear H
         go_wp2
         go_meet
         case rel => exact ⟨_, (true), (by first | rfl | (simp; done) | (simp [*]; done)), H', ⟨by have := HJ9.out; have := HJ15.out; first | omega | exact Nat.le_refl _⟩, ⟨by (with_reducible repeat (first | apply Kd.R_alloc | apply Kd.R_drewN | apply Kd.R_drew)); exact Kd.R_mono HO_1.out (fun _ hk => by first | exact ⟨hk.1.1.1, ⟨hk.1.1.2.1, hk.1.2⟩⟩ | ((repeat' apply And.intro) <;> first | exact hk.1.1.1.1 | exact hk.1.1.1.2 | exact hk.1.1.1 | exact hk.1.1.2 | exact hk.1.1 | exact hk.1.2 | exact hk.2 | exact hk.2.1 | exact hk.2.2 | exact hk.1 | exact hk))⟩, ⟨by (with_reducible repeat (first | apply Kd.R_alloc | apply Kd.R_drewN | apply Kd.R_drew)); exact Kd.R_mono HO_2.out (fun _ hk => by first | exact ⟨hk.1.1.1, ⟨hk.1.1.2.1, hk.1.2⟩⟩ | ((repeat' apply And.intro) <;> first | exact hk.1.1.1.1 | exact hk.1.1.1.2 | exact hk.1.1.1 | exact hk.1.1.2 | exact hk.1.1 | exact hk.1.2 | exact hk.2 | exact hk.2.1 | exact hk.2.2 | exact hk.1 | exact hk))⟩, ⟨by (with_reducible repeat (first | apply Kd.R_alloc | apply Kd.R_drewN | apply Kd.R_drew)); exact Kd.R_mono HO362.out (fun _ hk => by first | exact ⟨hk.1.1.1.1.1.1, ⟨hk.1.1.1.1.2, hk.1.1.1.2⟩⟩ | ((repeat' apply And.intro) <;> first | exact hk.1.1.1.1 | exact hk.1.1.1.2 | exact hk.1.1.1 | exact hk.1.1.2 | exact hk.1.1 | exact hk.1.2 | exact hk.2 | exact hk.2.1 | exact hk.2.2 | exact hk.1 | exact hk))⟩, ⟨by repeat (first | (with_reducible first | exact HK.out | apply Kept.alloc | apply Kept.drewN | apply Kept.drew) | exact HK.out)⟩, ⟨by repeat (first | (with_reducible first | exact HB.out | apply below_alloc | apply pw_below_drewN | apply below_drew1) | exact HB.out)⟩⟩
        ·replace c34 := Bool.eq_false_iff.mpr c34
         subst c34
         have H1 : ((numeralref02_Bit.f t360 0).bind fun t370 => (numeralref12_Fraction.j2 kj15 a0 l1 l2 ji15 t360 t370)) = some (r1, r2, r3, r4) := by rw [if_neg (show ¬ (false = true) by decide)] at H; exact H
         clear H
         have H := H1
         clear H1
         replace H := Option.bind_eq_some_iff.mp H
         obtain ⟨t370, A350, H⟩ := H
         replace H : (numeralref12_Fraction.j2 kj15 a0 l1 l2 ji15 t360 t370) = some (r1, r2, r3, r4) := H
         have A35 := Aside0.mk A350
         clear A350
         have H' := Aside0.mk H
         clear H
         obtain ⟨Ao36, co36, eo36⟩ := Kd.R_slice HO362.out
         subst eo36
         go_wp2_with (first | (go_at_call 65; (with_reducible refine (numeralref02_Bit.calls _ _ t360 0 t370 _ ?side1 ?side2 A35.out).mono ?_); (case side1 => repeat (first | exact (Kd.R_reads' HO362.out).2.2 | (with_reducible refine Kd.C_alloc ?_ _) | (with_reducible refine Kd.C_drewN ?_ _) | (with_reducible refine Kd.C_drew ?_))); (case side2 => exact (Kd.R_reads' HO362.out).2.1); rintro e w' ⟨rfl, ⟨nd, rfl⟩⟩))
         go_meet
         case rel => exact ⟨_, (t370), (by first | rfl | (simp; done) | (simp [*]; done)), H', ⟨by have := HJ9.out; have := HJ15.out; first | omega | exact Nat.le_refl _⟩, ⟨by (with_reducible repeat (first | apply Kd.R_alloc | apply Kd.R_drewN | apply Kd.R_drew)); exact Kd.R_mono HO_1.out (fun _ hk => by first | exact ⟨hk.1.1.1, ⟨hk.1.1.2.1, hk.1.2⟩⟩ | ((repeat' apply And.intro) <;> first | exact hk.1.1.1.1 | exact hk.1.1.1.2 | exact hk.1.1.1 | exact hk.1.1.2 | exact hk.1.1 | exact hk.1.2 | exact hk.2 | exact hk.2.1 | exact hk.2.2 | exact hk.1 | exact hk))⟩, ⟨by (with_reducible repeat (first | apply Kd.R_alloc | apply Kd.R_drewN | apply Kd.R_drew)); exact Kd.R_mono HO_2.out (fun _ hk => by first | exact ⟨hk.1.1.1, ⟨hk.1.1.2.1, hk.1.2⟩⟩ | ((repeat' apply And.intro) <;> first | exact hk.1.1.1.1 | exact hk.1.1.1.2 | exact hk.1.1.1 | exact hk.1.1.2 | exact hk.1.1 | exact hk.1.2 | exact hk.2 | exact hk.2.1 | exact hk.2.2 | exact hk.1 | exact hk))⟩, ⟨by (with_reducible repeat (first | apply Kd.R_alloc | apply Kd.R_drewN | apply Kd.R_drew)); exact Kd.R_mono HO362.out (fun _ hk => by first | exact ⟨hk.1.1.1.1.1.1, ⟨hk.1.1.1.1.2, hk.1.1.1.2⟩⟩ | ((repeat' apply And.intro) <;> first | exact hk.1.1.1.1 | exact hk.1.1.1.2 | exact hk.1.1.1 | exact hk.1.1.2 | exact hk.1.1 | exact hk.1.2 | exact hk.2 | exact hk.2.1 | exact hk.2.2 | exact hk.1 | exact hk))⟩, ⟨by repeat (first | (with_reducible first | exact HK.out | apply Kept.alloc | apply Kept.drewN | apply Kept.drew) | exact HK.out)⟩, ⟨by repeat (first | (with_reducible first | exact HB.out | apply below_alloc | apply pw_below_drewN | apply below_drew1) | exact HB.out)⟩⟩
       ·rw [if_neg c33] at H
        have c33b0 : (t369 == 0) = false := beq_eq_false_iff_ne.mpr c33
        have c33b1 : (t369 != 0) = true := bne_iff_ne.mpr c33
        have H' := Aside0.mk H
        clear H
        go_wp2
        go_meet
        case rel => exact ⟨_, (false), (by first | rfl | (simp; done) | (simp [*]; done)), H', ⟨by have := HJ9.out; have := HJ15.out; first | omega | exact Nat.le_refl _⟩, ⟨by (with_reducible repeat (first | apply Kd.R_alloc | apply Kd.R_drewN | apply Kd.R_drew)); exact Kd.R_mono HO_1.out (fun _ hk => by first | exact ⟨hk.1.1.1, ⟨hk.1.1.2.1, hk.1.2⟩⟩ | ((repeat' apply And.intro) <;> first | exact hk.1.1.1.1 | exact hk.1.1.1.2 | exact hk.1.1.1 | exact hk.1.1.2 | exact hk.1.1 | exact hk.1.2 | exact hk.2 | exact hk.2.1 | exact hk.2.2 | exact hk.1 | exact hk))⟩, ⟨by (with_reducible repeat (first | apply Kd.R_alloc | apply Kd.R_drewN | apply Kd.R_drew)); exact Kd.R_mono HO_2.out (fun _ hk => by first | exact ⟨hk.1.1.1, ⟨hk.1.1.2.1, hk.1.2⟩⟩ | ((repeat' apply And.intro) <;> first | exact hk.1.1.1.1 | exact hk.1.1.1.2 | exact hk.1.1.1 | exact hk.1.1.2 | exact hk.1.1 | exact hk.1.2 | exact hk.2 | exact hk.2.1 | exact hk.2.2 | exact hk.1 | exact hk))⟩, ⟨by (with_reducible repeat (first | apply Kd.R_alloc | apply Kd.R_drewN | apply Kd.R_drew)); exact Kd.R_mono HO362.out (fun _ hk => by first | exact ⟨hk.1.1.1.1.1.1, ⟨hk.1.1.1.1.2, hk.1.1.1.2⟩⟩ | ((repeat' apply And.intro) <;> first | exact hk.1.1.1.1 | exact hk.1.1.1.2 | exact hk.1.1.1 | exact hk.1.1.2 | exact hk.1.1 | exact hk.1.2 | exact hk.2 | exact hk.2.1 | exact hk.2.2 | exact hk.1 | exact hk))⟩, ⟨by repeat (first | (with_reducible first | exact HK.out | apply Kept.alloc | apply Kept.drewN | apply Kept.drew) | exact HK.out)⟩, ⟨by repeat (first | (with_reducible first | exact HB.out | apply below_alloc | apply pw_below_drewN | apply below_drew1) | exact HB.out)⟩⟩
     case rest =>
      clear HC25
      try clear c1
      try clear p1
      try clear p2
      try clear c3
      try clear c5
      try clear c6
      try clear p6
      try clear c14
      try clear c17
      try clear c17b0
      try clear c32
      try clear c32b0
      try clear c33
      try clear c33b0
      try clear c33b1
      try clear c34
      try clear p1
      try clear p2
      try clear p6
      obtain ⟨kq, x84_24, rfl, HA, HJ24, HO_1, HO_2, HO_19, HK, HB⟩ := hcut
      cases kq with
      | zero => exact absurd HA.out (by simp [numeralref12_Fraction.j2])
      | succ kj24 =>
       have H := HA.out
       clear HA
       simp only [numeralref12_Fraction.j2] at H
       have HC37 := Aside0.mk H
       clear H
       go_upto_if 84 with (fail)
       go_cut [19] (fun v19 wc => ∃ (kq : Nat) (x19_36 : List Int), Aside0 (numeralref12_Fraction.j3 kq a0 l1 l2 ji15 x19_36 = some (r1, r2, r3, r4)) ∧ Aside0 (kq ≤ kj24) ∧ Aside0 (Kd.R (Kd.int .u32) 89 wc w0.heap.size (fun k_ => ((P1_ k_ ∨ P2_ k_) ∨ w.heap.size ≤ k_) ∧ some k_ ≠ ((.slice Ao12 l2.length co12) : Value).ownBlock ∧ some k_ ≠ (v19 : Value).ownBlock) (.slice Ao11 l1.length co11) l1) ∧ Aside0 (Kd.R (Kd.int .u32) 89 wc w0.heap.size (fun k_ => ((P1_ k_ ∨ P2_ k_) ∨ w.heap.size ≤ k_) ∧ some k_ ≠ ((.slice Ao11 l1.length co11) : Value).ownBlock ∧ some k_ ≠ (v19 : Value).ownBlock) (.slice Ao12 l2.length co12) l2) ∧ Aside0 (Kd.R (Kd.int .u32) 89 wc w0.heap.size (fun k_ => ((P1_ k_ ∨ P2_ k_) ∨ w.heap.size ≤ k_) ∧ some k_ ≠ ((.slice Ao11 l1.length co11) : Value).ownBlock ∧ some k_ ≠ ((.slice Ao12 l2.length co12) : Value).ownBlock) v19 x19_36) ∧ Aside0 (Kept w wc (fun k_ => P1_ k_ ∨ P2_ k_)) ∧ Aside0 (Below w0.heap.size w0 wc))
       case first =>
        have H := HC37.out
        clear HC37
        by_cases c38 : x84_24 = true
        ·subst c38
         have H1 : ((numeralref02_Small.f kj24 1).bind fun t371 => ((numeralref02_Plus.f kj24 t360 t371).bind fun t374 => (numeralref12_Fraction.j3 kj24 a0 l1 l2 ji15 t374))) = some (r1, r2, r3, r4) := by rw [if_pos rfl] at H; exact H
         clear H
         have H := H1
         clear H1
         replace H := Option.bind_eq_some_iff.mp H
         obtain ⟨t371, A390, H⟩ := H
         replace H : ((numeralref02_Plus.f kj24 t360 t371).bind fun t374 => (numeralref12_Fraction.j3 kj24 a0 l1 l2 ji15 t374)) = some (r1, r2, r3, r4) := H
         have A39 := Aside0.mk A390
         clear A390
         replace H := Option.bind_eq_some_iff.mp H
         obtain ⟨t374, A400, H⟩ := H
         replace H : (numeralref12_Fraction.j3 kj24 a0 l1 l2 ji15 t374) = some (r1, r2, r3, r4) := H
         have A40 := Aside0.mk A400
         clear A400
         have H' := Aside0.mk H
         clear H
         go_wp2_with (first | ((with_reducible refine gate_callee (f := 38) rfl ?_); refine goesL_ (some 86) rfl rfl Tryd.func38 (by kernel_rfl) rfl #[.int .u64 1] rfl (by (try simp only [List.map_toArray, List.map_cons, List.map_nil]); first | done | rfl | (simp only [List.length_drop, List.length_take]; rfl)) ?_; (with_reducible refine (numeralref02_Small.calls kj24 1 t371 _ A39.out).mono ?_); rintro e w41 ⟨v372, rfl, ho0, hb⟩; refine ⟨_, rfl, ?_⟩; have n0_ := Aside0.mk (Kd.R_elder' (by (with_reducible repeat (first | apply Kd.R_alloc | apply Kd.R_drewN | apply Kd.R_drew)); exact HO_1.out) (Kd.R_base ho0) hb); have n1_ := Aside0.mk (Kd.R_elder' (by (with_reducible repeat (first | apply Kd.R_alloc | apply Kd.R_drewN | apply Kd.R_drew)); exact HO_2.out) (Kd.R_base ho0) hb); have n2_ := Aside0.mk (Kd.R_elder' (by (with_reducible repeat (first | apply Kd.R_alloc | apply Kd.R_drewN | apply Kd.R_drew)); exact HO_19.out) (Kd.R_base ho0) hb); have n3_ := Aside0.mk (Kd.R_lower (Kd.R_new' (Kd.R_new' (Kd.R_new' (Kd.R_newM (M := fun k_ => ((P1_ k_ ∨ P2_ k_) ∨ w.heap.size ≤ k_)) ho0 (by first | exact HK.out.1 | exact (show Kept w _ (fun k_ => P1_ k_ ∨ P2_ k_) from by repeat (first | (with_reducible first | exact HK.out | apply Kept.alloc | apply Kept.drewN | apply Kept.drew) | exact HK.out)).1) (fun k_ h_ => .inr h_)) (Kd.R_lt (by (with_reducible repeat (first | apply Kd.R_alloc | apply Kd.R_drewN | apply Kd.R_drew)); exact HO_1.out))) (Kd.R_lt (by (with_reducible repeat (first | apply Kd.R_alloc | apply Kd.R_drewN | apply Kd.R_drew)); exact HO_2.out))) (Kd.R_lt (by (with_reducible repeat (first | apply Kd.R_alloc | apply Kd.R_drewN | apply Kd.R_drew)); exact HO_19.out))) (below_size (by repeat (first | (with_reducible first | exact HB.out | apply below_alloc | apply pw_below_drewN | apply below_drew1) | exact HB.out)))); have n4_ := Aside0.mk (Kept.below (S := (fun k_ => P1_ k_ ∨ P2_ k_)) (by repeat (first | (with_reducible first | exact HK.out | apply Kept.alloc | apply Kept.drewN | apply Kept.drew) | exact HK.out)) hb); have n5_ := Aside0.mk (below_step (by repeat (first | (with_reducible first | exact HB.out | apply below_alloc | apply pw_below_drewN | apply below_drew1) | exact HB.out)) hb); clear HO_1; clear HO_2; clear HO_19; clear HK; clear HB; have HO_1 := n0_; have HO_2 := n1_; have HO_19 := n2_; have HO373 := n3_; have HK := n4_; have HB := n5_; clear n0_ n1_ n2_ n3_ n4_ n5_; (try clear hb); (try clear hb2); (try clear hk); (try clear hi); (try clear ho0); obtain ⟨Ao42, co42, eo42⟩ := Kd.R_slice HO_19.out; subst eo42; obtain ⟨Ao43, co43, eo43⟩ := Kd.R_slice HO373.out; subst eo43) | ((with_reducible refine gate_callee (f := 66) rfl ?_); refine goesL_ (some 87) rfl rfl Tryd.func66 (by kernel_rfl) rfl #[.slice Ao42 t360.length co42, .slice Ao43 t371.length co43] rfl (by (try simp only [List.map_toArray, List.map_cons, List.map_nil]); first | done | rfl | (simp only [List.length_drop, List.length_take]; rfl)) ?_; (with_reducible refine (numeralref02_Plus.calls kj24 _ _ t360 _ _ t371 t374 _ ?side1 ?side2 ?side3 ?side4 A40.out).mono ?_); (case side1 => repeat (first | exact (Kd.R_reads' HO_19.out).2.2 | (with_reducible refine Kd.C_alloc ?_ _) | (with_reducible refine Kd.C_drewN ?_ _) | (with_reducible refine Kd.C_drew ?_))); (case side2 => exact (Kd.R_reads' HO_19.out).2.1); (case side3 => repeat (first | exact (Kd.R_reads' HO373.out).2.2 | (with_reducible refine Kd.C_alloc ?_ _) | (with_reducible refine Kd.C_drewN ?_ _) | (with_reducible refine Kd.C_drew ?_))); (case side4 => exact (Kd.R_reads' HO373.out).2.1); rintro e w44 ⟨v375, rfl, ho0, hb⟩; refine ⟨_, rfl, ?_⟩; have n0_ := Aside0.mk (Kd.R_elder' (by (with_reducible repeat (first | apply Kd.R_alloc | apply Kd.R_drewN | apply Kd.R_drew)); exact HO_1.out) (Kd.R_base ho0) hb); have n1_ := Aside0.mk (Kd.R_elder' (by (with_reducible repeat (first | apply Kd.R_alloc | apply Kd.R_drewN | apply Kd.R_drew)); exact HO_2.out) (Kd.R_base ho0) hb); have n2_ := Aside0.mk (Kd.R_elder' (by (with_reducible repeat (first | apply Kd.R_alloc | apply Kd.R_drewN | apply Kd.R_drew)); exact HO_19.out) (Kd.R_base ho0) hb); have n3_ := Aside0.mk (Kd.R_elder' (by (with_reducible repeat (first | apply Kd.R_alloc | apply Kd.R_drewN | apply Kd.R_drew)); exact HO373.out) (Kd.R_base ho0) hb); have n4_ := Aside0.mk (Kd.R_lower (Kd.R_new' (Kd.R_new' (Kd.R_new' (Kd.R_new' (Kd.R_newM (M := fun k_ => ((P1_ k_ ∨ P2_ k_) ∨ w.heap.size ≤ k_)) ho0 (by first | exact HK.out.1 | exact (show Kept w _ (fun k_ => P1_ k_ ∨ P2_ k_) from by repeat (first | (with_reducible first | exact HK.out | apply Kept.alloc | apply Kept.drewN | apply Kept.drew) | exact HK.out)).1) (fun k_ h_ => .inr h_)) (Kd.R_lt (by (with_reducible repeat (first | apply Kd.R_alloc | apply Kd.R_drewN | apply Kd.R_drew)); exact HO_1.out))) (Kd.R_lt (by (with_reducible repeat (first | apply Kd.R_alloc | apply Kd.R_drewN | apply Kd.R_drew)); exact HO_2.out))) (Kd.R_lt (by (with_reducible repeat (first | apply Kd.R_alloc | apply Kd.R_drewN | apply Kd.R_drew)); exact HO_19.out))) (Kd.R_lt (by (with_reducible repeat (first | apply Kd.R_alloc | apply Kd.R_drewN | apply Kd.R_drew)); exact HO373.out))) (below_size (by repeat (first | (with_reducible first | exact HB.out | apply below_alloc | apply pw_below_drewN | apply below_drew1) | exact HB.out)))); have n5_ := Aside0.mk (Kept.below (S := (fun k_ => P1_ k_ ∨ P2_ k_)) (by repeat (first | (with_reducible first | exact HK.out | apply Kept.alloc | apply Kept.drewN | apply Kept.drew) | exact HK.out)) hb); have n6_ := Aside0.mk (below_step (by repeat (first | (with_reducible first | exact HB.out | apply below_alloc | apply pw_below_drewN | apply below_drew1) | exact HB.out)) hb); clear HO_1; clear HO_2; clear HO_19; clear HO373; clear HK; clear HB; have HO_1 := n0_; have HO_2 := n1_; have HO_19 := n2_; have HO373 := n3_; have HO376 := n4_; have HK := n5_; have HB := n6_; clear n0_ n1_ n2_ n3_ n4_ n5_ n6_; (try clear hb); (try clear hb2); (try clear hk); (try clear hi); (try clear ho0)))
         go_meet
         case rel => exact ⟨_, (t374), H', ⟨by have := HJ9.out; have := HJ15.out; have := HJ24.out; first | omega | exact Nat.le_refl _⟩, ⟨by (with_reducible repeat (first | apply Kd.R_alloc | apply Kd.R_drewN | apply Kd.R_drew)); exact Kd.R_mono HO_1.out (fun _ hk => by first | exact ⟨hk.1.1.1, ⟨hk.1.1.2.1, hk.2⟩⟩ | ((repeat' apply And.intro) <;> first | exact hk.1.1.1.1 | exact hk.1.1.1.2 | exact hk.1.1.1 | exact hk.1.1.2 | exact hk.1.1 | exact hk.1.2 | exact hk.2 | exact hk.2.1 | exact hk.2.2 | exact hk.1 | exact hk))⟩, ⟨by (with_reducible repeat (first | apply Kd.R_alloc | apply Kd.R_drewN | apply Kd.R_drew)); exact Kd.R_mono HO_2.out (fun _ hk => by first | exact ⟨hk.1.1.1, ⟨hk.1.1.2.1, hk.2⟩⟩ | ((repeat' apply And.intro) <;> first | exact hk.1.1.1.1 | exact hk.1.1.1.2 | exact hk.1.1.1 | exact hk.1.1.2 | exact hk.1.1 | exact hk.1.2 | exact hk.2 | exact hk.2.1 | exact hk.2.2 | exact hk.1 | exact hk))⟩, ⟨by (with_reducible repeat (first | apply Kd.R_alloc | apply Kd.R_drewN | apply Kd.R_drew)); exact Kd.R_mono HO376.out (fun _ hk => by first | exact ⟨hk.1.1.1.1.1, ⟨hk.1.1.1.2, hk.1.1.2⟩⟩ | ((repeat' apply And.intro) <;> first | exact hk.1.1.1.1 | exact hk.1.1.1.2 | exact hk.1.1.1 | exact hk.1.1.2 | exact hk.1.1 | exact hk.1.2 | exact hk.2 | exact hk.2.1 | exact hk.2.2 | exact hk.1 | exact hk))⟩, ⟨by repeat (first | (with_reducible first | exact HK.out | apply Kept.alloc | apply Kept.drewN | apply Kept.drew) | exact HK.out)⟩, ⟨by repeat (first | (with_reducible first | exact HB.out | apply below_alloc | apply pw_below_drewN | apply below_drew1) | exact HB.out)⟩⟩
        ·replace c38 := Bool.eq_false_iff.mpr c38
         subst c38
         have H1 : (numeralref12_Fraction.j3 kj24 a0 l1 l2 ji15 t360) = some (r1, r2, r3, r4) := by rw [if_neg (show ¬ (false = true) by decide)] at H; exact H
         clear H
         have H := H1
         clear H1
         have H' := Aside0.mk H
         clear H
         go_wp2
         go_meet
         case rel => exact ⟨_, (t360), H', ⟨by have := HJ9.out; have := HJ15.out; have := HJ24.out; first | omega | exact Nat.le_refl _⟩, ⟨by (with_reducible repeat (first | apply Kd.R_alloc | apply Kd.R_drewN | apply Kd.R_drew)); exact HO_1.out⟩, ⟨by (with_reducible repeat (first | apply Kd.R_alloc | apply Kd.R_drewN | apply Kd.R_drew)); exact HO_2.out⟩, ⟨by (with_reducible repeat (first | apply Kd.R_alloc | apply Kd.R_drewN | apply Kd.R_drew)); exact HO_19.out⟩, ⟨by repeat (first | (with_reducible first | exact HK.out | apply Kept.alloc | apply Kept.drewN | apply Kept.drew) | exact HK.out)⟩, ⟨by repeat (first | (with_reducible first | exact HB.out | apply below_alloc | apply pw_below_drewN | apply below_drew1) | exact HB.out)⟩⟩
       case rest =>
        clear HC37
        try clear c1
        try clear p1
        try clear p2
        try clear c3
        try clear c5
        try clear c6
        try clear p6
        try clear c14
        try clear c17
        try clear c17b0
        try clear c32
        try clear c32b0
        try clear c33
        try clear c33b0
        try clear c33b1
        try clear c34
        try clear c38
        try clear p1
        try clear p2
        try clear p6
        obtain ⟨kq, x19_36, HA, HJ36, HO_1, HO_2, HO_19, HK, HB⟩ := hcut
        cases kq with
        | zero => exact absurd HA.out (by simp [numeralref12_Fraction.j3])
        | succ kj36 =>
         have H := HA.out
         clear HA
         simp only [numeralref12_Fraction.j3] at H
         by_cases c45 : (x19_36.length : Int) = 0
         ·rw [if_pos c45] at H
          have c45b0 : ((x19_36.length : Int) == 0) = true := beq_iff_eq.mpr c45
          have c45b1 : ((x19_36.length : Int) != 0) = false := bne_eq_false_iff_eq.mpr c45
          clear c45
          simp only [Option.some.injEq, Prod.mk.injEq] at H
          obtain ⟨rfl, rfl, rfl, rfl⟩ := H
          obtain ⟨Ao46, co46, eo46⟩ := Kd.R_slice HO_19.out
          subst eo46
          go_wp2
          go_ret2
          exact ⟨by first | rfl | (simp [errW_none, errW_some] <;> rfl) | (simp only [← hji15]; first | rfl | (simp [errW_none, errW_some] <;> rfl)) | (simp [*, errW_none, errW_some] <;> rfl), by (with_reducible repeat (first | apply Kd.R_alloc | apply Kd.R_drewN | apply Kd.R_drew)); exact Kd.R_mono HO_1.out (fun _ hk => hk.1), by (with_reducible repeat (first | apply Kd.R_alloc | apply Kd.R_drewN | apply Kd.R_drew)); exact Kd.R_mono HO_2.out (fun _ hk => hk.1), by repeat (first | (with_reducible first | exact HB.out | apply below_alloc | apply pw_below_drewN | apply below_drew1) | exact HB.out), by repeat (first | (with_reducible first | exact HK.out | apply Kept.alloc | apply Kept.drewN | apply Kept.drew) | exact HK.out)⟩
         ·rw [if_neg c45] at H
          have c45b0 : ((x19_36.length : Int) == 0) = false := beq_eq_false_iff_ne.mpr c45
          have c45b1 : ((x19_36.length : Int) != 0) = true := bne_iff_ne.mpr c45
          have c45b2 : ¬ (x19_36 = []) := fun h_ => c45 (by rw [h_]; rfl)
          replace H := Option.bind_eq_some_iff.mp H
          obtain ⟨t377, A470, H⟩ := H
          replace H : ((numeralref11_Pack.f kj36 false 2 t377 ji15 a0).bind fun bt378 => (if bt378.2 = 0 then (some (bt378.1, false, l1, l2)) else ((numeralref11_Inf.f a0).bind fun t380 => (some (t380, true, l1, l2))))) = some (r1, r2, r3, r4) := H
          have A47 := Aside0.mk A470
          clear A470
          replace H := Option.bind_eq_some_iff.mp H
          obtain ⟨⟨t378, t379⟩, A480, H⟩ := H
          replace H : (if t379 = 0 then (some (t378, false, l1, l2)) else ((numeralref11_Inf.f a0).bind fun t380 => (some (t380, true, l1, l2)))) = some (r1, r2, r3, r4) := H
          have A48 := Aside0.mk A480
          clear A480
          by_cases c49 : t379 = 0
          ·rw [if_pos c49] at H
           have c49b0 : (t379 == 0) = true := beq_iff_eq.mpr c49
           have c49b1 : (t379 != 0) = false := bne_eq_false_iff_eq.mpr c49
           clear c49
           simp only [Option.some.injEq, Prod.mk.injEq] at H
           obtain ⟨rfl, rfl, rfl, rfl⟩ := H
           obtain ⟨Ao50, co50, eo50⟩ := Kd.R_slice HO_19.out
           subst eo50
           go_wp2_with (first | ((with_reducible refine gate_callee (f := 68) rfl ?_); refine goesL_ (some 93) rfl rfl Tryd.func68 (by kernel_rfl) rfl #[.slice Ao50 x19_36.length co50] rfl (by (try simp only [List.map_toArray, List.map_cons, List.map_nil]); first | done | rfl | (simp only [List.length_drop, List.length_take]; rfl)) ?_; (with_reducible refine (numeralref02_Word.calls kj36 _ _ x19_36 t377 _ ?side1 ?side2 A47.out).mono ?_); (case side1 => repeat (first | exact (Kd.R_reads' HO_19.out).2.2 | (with_reducible refine Kd.C_alloc ?_ _) | (with_reducible refine Kd.C_drewN ?_ _) | (with_reducible refine Kd.C_drew ?_))); (case side2 => exact (Kd.R_reads' HO_19.out).2.1); rintro e w' ⟨rfl, ⟨nd, rfl⟩⟩; refine ⟨_, rfl, ?_⟩) | ((with_reducible refine gate_callee (f := 67) rfl ?_); refine goesL_ (some 97) rfl rfl Tryd.func67 (by kernel_rfl) rfl #[.agg #[.bool false, .int .i64 2, .int .u64 t377, .int .i64 ji15], .int .i64 a0] rfl (by (try simp only [List.map_toArray, List.map_cons, List.map_nil]); first | done | (simp only [hji15]; rfl) | rfl | (simp only [List.length_drop, List.length_take]; rfl)) ?_; (with_reducible refine (numeralref11_Pack.calls kj36 false 2 t377 ji15 a0 t378 t379 _ A48.out).mono ?_); rintro e w51 ⟨rfl, hb⟩; refine ⟨_, rfl, ?_⟩; have n0_ := Aside0.mk (Kd.R_below (by (with_reducible repeat (first | apply Kd.R_alloc | apply Kd.R_drewN | apply Kd.R_drew)); exact HO_1.out) hb); have n1_ := Aside0.mk (Kd.R_below (by (with_reducible repeat (first | apply Kd.R_alloc | apply Kd.R_drewN | apply Kd.R_drew)); exact HO_2.out) hb); have n2_ := Aside0.mk (Kd.R_below (by (with_reducible repeat (first | apply Kd.R_alloc | apply Kd.R_drewN | apply Kd.R_drew)); exact HO_19.out) hb); have n3_ := Aside0.mk (Kept.below (S := (fun k_ => P1_ k_ ∨ P2_ k_)) (by repeat (first | (with_reducible first | exact HK.out | apply Kept.alloc | apply Kept.drewN | apply Kept.drew) | exact HK.out)) hb); have n4_ := Aside0.mk (below_step (by repeat (first | (with_reducible first | exact HB.out | apply below_alloc | apply pw_below_drewN | apply below_drew1) | exact HB.out)) hb); clear HO_1; clear HO_2; clear HO_19; clear HK; clear HB; have HO_1 := n0_; have HO_2 := n1_; have HO_19 := n2_; have HK := n3_; have HB := n4_; clear n0_ n1_ n2_ n3_ n4_; (try clear hb); (try clear hb2); (try clear hk); (try clear hi)))
           go_ret2
           exact ⟨by first | rfl | (simp [errW_none, errW_some] <;> rfl) | (simp only [← hji15]; first | rfl | (simp [errW_none, errW_some] <;> rfl)) | (simp [*, errW_none, errW_some] <;> rfl), by (with_reducible repeat (first | apply Kd.R_alloc | apply Kd.R_drewN | apply Kd.R_drew)); exact Kd.R_mono HO_1.out (fun _ hk => hk.1), by (with_reducible repeat (first | apply Kd.R_alloc | apply Kd.R_drewN | apply Kd.R_drew)); exact Kd.R_mono HO_2.out (fun _ hk => hk.1), by repeat (first | (with_reducible first | exact HB.out | apply below_alloc | apply pw_below_drewN | apply below_drew1) | exact HB.out), by repeat (first | (with_reducible first | exact HK.out | apply Kept.alloc | apply Kept.drewN | apply Kept.drew) | exact HK.out)⟩
          ·rw [if_neg c49] at H
           have c49b0 : (t379 == 0) = false := beq_eq_false_iff_ne.mpr c49
           have c49b1 : (t379 != 0) = true := bne_iff_ne.mpr c49
           replace H := Option.bind_eq_some_iff.mp H
           obtain ⟨t380, A520, H⟩ := H
           replace H : (some (t380, true, l1, l2)) = some (r1, r2, r3, r4) := H
           have A52 := Aside0.mk A520
           clear A520
           simp only [Option.some.injEq, Prod.mk.injEq] at H
           obtain ⟨rfl, rfl, rfl, rfl⟩ := H
           obtain ⟨Ao53, co53, eo53⟩ := Kd.R_slice HO_19.out
           subst eo53
           go_wp2_with (first | ((with_reducible refine gate_callee (f := 68) rfl ?_); refine goesL_ (some 93) rfl rfl Tryd.func68 (by kernel_rfl) rfl #[.slice Ao53 x19_36.length co53] rfl (by (try simp only [List.map_toArray, List.map_cons, List.map_nil]); first | done | rfl | (simp only [List.length_drop, List.length_take]; rfl)) ?_; (with_reducible refine (numeralref02_Word.calls kj36 _ _ x19_36 t377 _ ?side1 ?side2 A47.out).mono ?_); (case side1 => repeat (first | exact (Kd.R_reads' HO_19.out).2.2 | (with_reducible refine Kd.C_alloc ?_ _) | (with_reducible refine Kd.C_drewN ?_ _) | (with_reducible refine Kd.C_drew ?_))); (case side2 => exact (Kd.R_reads' HO_19.out).2.1); rintro e w' ⟨rfl, ⟨nd, rfl⟩⟩; refine ⟨_, rfl, ?_⟩) | ((with_reducible refine gate_callee (f := 67) rfl ?_); refine goesL_ (some 97) rfl rfl Tryd.func67 (by kernel_rfl) rfl #[.agg #[.bool false, .int .i64 2, .int .u64 t377, .int .i64 ji15], .int .i64 a0] rfl (by (try simp only [List.map_toArray, List.map_cons, List.map_nil]); first | done | (simp only [hji15]; rfl) | rfl | (simp only [List.length_drop, List.length_take]; rfl)) ?_; (with_reducible refine (numeralref11_Pack.calls kj36 false 2 t377 ji15 a0 t378 t379 _ A48.out).mono ?_); rintro e w54 ⟨rfl, hb⟩; refine ⟨_, rfl, ?_⟩; have n0_ := Aside0.mk (Kd.R_below (by (with_reducible repeat (first | apply Kd.R_alloc | apply Kd.R_drewN | apply Kd.R_drew)); exact HO_1.out) hb); have n1_ := Aside0.mk (Kd.R_below (by (with_reducible repeat (first | apply Kd.R_alloc | apply Kd.R_drewN | apply Kd.R_drew)); exact HO_2.out) hb); have n2_ := Aside0.mk (Kd.R_below (by (with_reducible repeat (first | apply Kd.R_alloc | apply Kd.R_drewN | apply Kd.R_drew)); exact HO_19.out) hb); have n3_ := Aside0.mk (Kept.below (S := (fun k_ => P1_ k_ ∨ P2_ k_)) (by repeat (first | (with_reducible first | exact HK.out | apply Kept.alloc | apply Kept.drewN | apply Kept.drew) | exact HK.out)) hb); have n4_ := Aside0.mk (below_step (by repeat (first | (with_reducible first | exact HB.out | apply below_alloc | apply pw_below_drewN | apply below_drew1) | exact HB.out)) hb); clear HO_1; clear HO_2; clear HO_19; clear HK; clear HB; have HO_1 := n0_; have HO_2 := n1_; have HO_19 := n2_; have HK := n3_; have HB := n4_; clear n0_ n1_ n2_ n3_ n4_; (try clear hb); (try clear hb2); (try clear hk); (try clear hi)) | ((with_reducible refine gate_callee (f := 18) rfl ?_); refine goesL_ (some 103) rfl rfl Tryd.func18 (by kernel_rfl) rfl #[.int .i64 a0] rfl (by (try simp only [List.map_toArray, List.map_cons, List.map_nil]); first | done | rfl | (simp only [List.length_drop, List.length_take]; rfl)) ?_; (with_reducible refine (numeralref11_Inf.calls a0 t380 _ A52.out).mono ?_); rintro e w' ⟨rfl, ⟨nd, rfl⟩⟩; refine ⟨_, rfl, ?_⟩))
           go_ret2
           exact ⟨by first | rfl | (simp [errW_none, errW_some] <;> rfl) | (simp only [← hji15]; first | rfl | (simp [errW_none, errW_some] <;> rfl)) | (simp [*, errW_none, errW_some] <;> rfl), by (with_reducible repeat (first | apply Kd.R_alloc | apply Kd.R_drewN | apply Kd.R_drew)); exact Kd.R_mono HO_1.out (fun _ hk => hk.1), by (with_reducible repeat (first | apply Kd.R_alloc | apply Kd.R_drewN | apply Kd.R_drew)); exact Kd.R_mono HO_2.out (fun _ hk => hk.1), by repeat (first | (with_reducible first | exact HB.out | apply below_alloc | apply pw_below_drewN | apply below_drew1) | exact HB.out), by repeat (first | (with_reducible first | exact HK.out | apply Kept.alloc | apply Kept.drewN | apply Kept.drew) | exact HK.out)⟩

end Go.Proofs.YtbjmfocjigikgaaDoor.Xr
