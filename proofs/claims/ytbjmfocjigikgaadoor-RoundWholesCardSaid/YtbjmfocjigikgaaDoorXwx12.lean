-- PRINTED by print.py (a twelfth state) out of the translation. Not trusted: Lean checks it.
import Derived.Test.YtbjmfocjigikgaaDoorXwx0
import Derived.Test.YtbjmfocjigikgaaDoorXwx1
import Derived.Test.YtbjmfocjigikgaaDoorXwx7
import Derived.Test.YtbjmfocjigikgaaDoorXwx11
namespace Go.Proofs.YtbjmfocjigikgaaDoor.Xw
open Go.RowKit Go.Proofs.YtbjmfocjigikgaaDoorW.PrintWords Go.Proofs.YtbjmfocjigikgaaDoorW.PrintLast Go.Proofs.YtbjmfocjigikgaaDoorW.PrintMore
attribute [local go_sem] max2_int min2_int max_two min_two max_three min_three max_four min_four   -- for this text's walks alone
set_option linter.unusedVariables false
set_option linter.unusedSimpArgs false

/-! ### numeralref12_rounded: function 35 -/
mutual
def numeralref12_rounded.j0 : Nat → Int → Bool → List Int → List Int → Int → Bool → Bool → Option (Int × Int × List Int × List Int)
 | 0, _, _, _, _, _, _, _ => none
 | k + 1, x0, x1, x2, x3, x4, x5, x22 => if x22 = true then ((numeralref11_Signed.f x1 0 x0).bind fun t409 => (some (t409, 0, x2, x3))) else ((numeralref11_Inf.f x0).bind fun t410 => (if x4 ≤ 20000 then ((numeralref12_Fraction.f k x0 x2 x3 x4 x5).bind fun bt411 => (numeralref12_rounded.j1 k x0 x1 bt411.2.2.1 bt411.2.2.2 bt411.1 bt411.2.1)) else (numeralref12_rounded.j1 k x0 x1 x2 x3 t410 true)))
def numeralref12_rounded.j1 : Nat → Int → Bool → List Int → List Int → Int → Bool → Option (Int × Int × List Int × List Int)
 | 0, _, _, _, _, _, _ => none
 | k + 1, x0, x1, x2, x3, x14, x15 => if x15 = true then ((numeralref11_Signed.f x1 x14 x0).bind fun t415 => (some (t415, 4, x2, x3))) else ((numeralref11_Signed.f x1 x14 x0).bind fun t416 => (some (t416, 0, x2, x3)))
end
def numeralref12_rounded.f (k : Nat) (a0 : Int) (a1 : Bool) (l2 : List Int) (l3 : List Int) (a4 : Int) (a5 : Bool) : Option (Int × Int × List Int × List Int) := if (l2.length : Int) = 0 then (numeralref12_rounded.j0 k a0 a1 l2 l3 a4 a5 true) else (numeralref12_rounded.j0 k a0 a1 l2 l3 a4 a5 (decide (a4 < (-20000))))
theorem numeralref12_rounded.mono_l : ∀ k, (∀ y0 y1 y2 y3 y4 y5 y6, LeO (numeralref12_rounded.j0 k y0 y1 y2 y3 y4 y5 y6) (numeralref12_rounded.j0 (k + 1) y0 y1 y2 y3 y4 y5 y6)) ∧ (∀ y0 y1 y2 y3 y4 y5, LeO (numeralref12_rounded.j1 k y0 y1 y2 y3 y4 y5) (numeralref12_rounded.j1 (k + 1) y0 y1 y2 y3 y4 y5))
 | 0 => ⟨fun _ _ _ _ _ _ _ r h => by simp [numeralref12_rounded.j0] at h, fun _ _ _ _ _ _ r h => by simp [numeralref12_rounded.j1] at h⟩
 | k + 1 => by
  obtain ⟨ih0, ih1⟩ := numeralref12_rounded.mono_l k
  refine ⟨?_, ?_⟩
  ·intro y0 y1 y2 y3 y4 y5 y6
   unfold numeralref12_rounded.j0
   repeat' first
   | (with_reducible exact ih0 _ _ _ _ _ _ _)
   | (with_reducible exact ih1 _ _ _ _ _ _)
   | (with_reducible exact numeralref12_Fraction.mono _ _ _ _ _ _)
   | (with_reducible exact LeO.refl _)
   | (with_reducible exact LeO.none _)
   | (with_reducible refine LeO.ite ?_ ?_)
   | (with_reducible refine LeO.bind ?_ (fun _ => ?_))
   | exact ih0 _ _ _ _ _ _ _
   | exact ih1 _ _ _ _ _ _
   | exact numeralref12_Fraction.mono _ _ _ _ _ _
   | exact LeO.none _
   | refine LeO.ite ?_ ?_
   | refine LeO.bind ?_ (fun _ => ?_)
  ·intro y0 y1 y2 y3 y4 y5
   unfold numeralref12_rounded.j1
   repeat' first
   | (with_reducible exact ih0 _ _ _ _ _ _ _)
   | (with_reducible exact ih1 _ _ _ _ _ _)
   | (with_reducible exact numeralref12_Fraction.mono _ _ _ _ _ _)
   | (with_reducible exact LeO.refl _)
   | (with_reducible exact LeO.none _)
   | (with_reducible refine LeO.ite ?_ ?_)
   | (with_reducible refine LeO.bind ?_ (fun _ => ?_))
   | exact ih0 _ _ _ _ _ _ _
   | exact ih1 _ _ _ _ _ _
   | exact numeralref12_Fraction.mono _ _ _ _ _ _
   | exact LeO.none _
   | refine LeO.ite ?_ ?_
   | refine LeO.bind ?_ (fun _ => ?_)
theorem numeralref12_rounded.mono : ∀ a0 a1 a2 a3 a4 a5 k, LeO (numeralref12_rounded.f k a0 a1 a2 a3 a4 a5) (numeralref12_rounded.f (k + 1) a0 a1 a2 a3 a4 a5) := by
 intro a0 a1 a2 a3 a4 a5 k
 obtain ⟨ih0, ih1⟩ := numeralref12_rounded.mono_l k
 unfold numeralref12_rounded.f
 repeat' first
   | (with_reducible exact ih0 _ _ _ _ _ _ _)
   | (with_reducible exact ih1 _ _ _ _ _ _)
   | (with_reducible exact numeralref12_Fraction.mono _ _ _ _ _ _)
   | (with_reducible exact LeO.refl _)
   | (with_reducible exact LeO.none _)
   | (with_reducible refine LeO.ite ?_ ?_)
   | (with_reducible refine LeO.bind ?_ (fun _ => ?_))
   | exact ih0 _ _ _ _ _ _ _
   | exact ih1 _ _ _ _ _ _
   | exact numeralref12_Fraction.mono _ _ _ _ _ _
   | exact LeO.none _
   | refine LeO.ite ?_ ?_
   | refine LeO.bind ?_ (fun _ => ?_)
set_option maxHeartbeats 8000000 in
set_option maxRecDepth 100000 in
theorem numeralref12_rounded.calls (k : Nat) (a0 : Int) (a1 : Bool) (P2_ : Nat → Prop) (u9000_ : Value) (l2 : List Int) (P3_ : Nat → Prop) (u9001_ : Value) (l3 : List Int) (a4 : Int) (a5 : Bool) (r1 : Int) (r2 : Int) (r3 : List Int) (r4 : List Int) (w0 w : World) (hB : Below w0.heap.size w0 w) (ho2 : Kd.R (Kd.int .u32) 89 w w0.heap.size P2_ u9000_ l2) (hp2_3 : ∀ k_, P2_ k_ → ¬ P3_ k_) (ho3 : Kd.R (Kd.int .u32) 89 w w0.heap.size P3_ u9001_ l3) (hp3_2 : ∀ k_, P3_ k_ → ¬ P2_ k_) (h : numeralref12_rounded.f k a0 a1 l2 l3 a4 a5 = some (r1, r2, r3, r4)) :
  Calls Tryd.prog 35 #[.int .i64 a0, .bool a1, u9000_, u9001_, .int .i64 a4, .bool a5] w fun e w' => e = .returned (.tuple #[.int .u64 r1, .int .i64 r2]) ∧ Kd.R (Kd.int .u32) 89 w' w0.heap.size (fun k_ => ((P2_ k_ ∨ P3_ k_) ∨ w.heap.size ≤ k_)) u9000_ r3 ∧ Kd.R (Kd.int .u32) 89 w' w0.heap.size (fun k_ => ((P2_ k_ ∨ P3_ k_) ∨ w.heap.size ≤ k_)) u9001_ r4 ∧ Below w0.heap.size w0 w' ∧ Kept w w' (fun k_ => P2_ k_ ∨ P3_ k_) := by
 have HO2 := Aside0.mk (show Kd.R (Kd.int .u32) 89 w w0.heap.size (fun k_ => ((P2_ k_ ∨ P3_ k_) ∨ w.heap.size ≤ k_) ∧ some k_ ≠ (u9001_ : Value).ownBlock) u9000_ l2 from Kd.R_mono ho2 (fun k_ hk => ⟨(.inl (.inl hk)), fun e_ => hp2_3 k_ hk (ho3.1 k_ e_.symm)⟩))
 have HO3 := Aside0.mk (show Kd.R (Kd.int .u32) 89 w w0.heap.size (fun k_ => ((P2_ k_ ∨ P3_ k_) ∨ w.heap.size ≤ k_) ∧ some k_ ≠ (u9000_ : Value).ownBlock) u9001_ l3 from Kd.R_mono ho3 (fun k_ hk => ⟨(.inl (.inr hk)), fun e_ => hp3_2 k_ hk (ho2.1 k_ e_.symm)⟩))
 have HK := Aside0.mk (Kept.refl w (fun k_ => P2_ k_ ∨ P3_ k_))
 have HW0 := Aside0.mk hB.size
 have HB := Aside0.mk hB
 clear hB
 have H : (if (l2.length : Int) = 0 then (numeralref12_rounded.j0 k a0 a1 l2 l3 a4 a5 true) else (numeralref12_rounded.j0 k a0 a1 l2 l3 a4 a5 (decide (a4 < (-20000))))) = some (r1, r2, r3, r4) := h
 clear h
 have HC7 := Aside0.mk H
 clear H
 go_enter Tryd.func35, Tryd.ntmps35
 go_upto_region 1 with (fail)
 go_cut [22] (fun v22 wc => ∃ (kq : Nat) (x22_6 : Bool), v22 = .bool x22_6 ∧ Aside0 (numeralref12_rounded.j0 kq a0 a1 l2 l3 a4 a5 x22_6 = some (r1, r2, r3, r4)) ∧ Aside0 (kq ≤ k) ∧ Aside0 (Kd.R (Kd.int .u32) 89 wc w0.heap.size (fun k_ => ((P2_ k_ ∨ P3_ k_) ∨ w.heap.size ≤ k_) ∧ some k_ ≠ (u9001_ : Value).ownBlock) u9000_ l2) ∧ Aside0 (Kd.R (Kd.int .u32) 89 wc w0.heap.size (fun k_ => ((P2_ k_ ∨ P3_ k_) ∨ w.heap.size ≤ k_) ∧ some k_ ≠ (u9000_ : Value).ownBlock) u9001_ l3) ∧ Aside0 (Kept w wc (fun k_ => P2_ k_ ∨ P3_ k_)) ∧ Aside0 (Below w0.heap.size w0 wc))
 case first =>
  have H := HC7.out
  clear HC7
  by_cases c8 : (l2.length : Int) = 0
  ·rw [if_pos c8] at H
   have c8b0 : ((l2.length : Int) == 0) = true := beq_iff_eq.mpr c8
   have c8b1 : ((l2.length : Int) != 0) = false := bne_eq_false_iff_eq.mpr c8
   clear c8
   (first | rw [c8b0] | (simp only [i64_w, i32_w]; rw [c8b0]) | skip)
   have H' := Aside0.mk H
   clear H
   obtain ⟨Ao9, co9, eo9⟩ := Kd.R_slice HO2.out
   subst eo9
   go_wp2
   go_meet
   case rel => exact ⟨_, (true), (by first | rfl | (simp; done) | (simp [*]; done)), H', ⟨by first | omega | exact Nat.le_refl _⟩, ⟨by (with_reducible repeat (first | apply Kd.R_alloc | apply Kd.R_drewN | apply Kd.R_drew)); exact HO2.out⟩, ⟨by (with_reducible repeat (first | apply Kd.R_alloc | apply Kd.R_drewN | apply Kd.R_drew)); exact HO3.out⟩, ⟨by repeat (first | (with_reducible first | exact HK.out | apply Kept.alloc | apply Kept.drewN | apply Kept.drew) | exact HK.out)⟩, ⟨by repeat (first | (with_reducible first | exact HB.out | apply below_alloc | apply pw_below_drewN | apply below_drew1) | exact HB.out)⟩⟩
  ·rw [if_neg c8] at H
   have c8b0 : ((l2.length : Int) == 0) = false := beq_eq_false_iff_ne.mpr c8
   have c8b1 : ((l2.length : Int) != 0) = true := bne_iff_ne.mpr c8
   have c8b2 : ¬ (l2 = []) := fun h_ => c8 (by rw [h_]; rfl)
   (first | rw [c8b0] | (simp only [i64_w, i32_w]; rw [c8b0]) | skip)
   have H' := Aside0.mk H
   clear H
   obtain ⟨Ao10, co10, eo10⟩ := Kd.R_slice HO2.out
   subst eo10
   go_wp2
   go_meet
   case rel => exact ⟨_, (decide (a4 < (-20000))), (by first | rfl | (simp; done) | (simp [*]; done)), H', ⟨by first | omega | exact Nat.le_refl _⟩, ⟨by (with_reducible repeat (first | apply Kd.R_alloc | apply Kd.R_drewN | apply Kd.R_drew)); exact HO2.out⟩, ⟨by (with_reducible repeat (first | apply Kd.R_alloc | apply Kd.R_drewN | apply Kd.R_drew)); exact HO3.out⟩, ⟨by repeat (first | (with_reducible first | exact HK.out | apply Kept.alloc | apply Kept.drewN | apply Kept.drew) | exact HK.out)⟩, ⟨by repeat (first | (with_reducible first | exact HB.out | apply below_alloc | apply pw_below_drewN | apply below_drew1) | exact HB.out)⟩⟩
 case rest =>
  clear HC7
  try clear p2
  try clear c3
  try clear p3
  try clear c8
  try clear c8b0
  try clear c8b1
  try clear c8b2
  obtain ⟨kq, x22_6, rfl, HA, HJ6, HO_2, HO_3, HK, HB⟩ := hcut
  cases kq with
  | zero => exact absurd HA.out (by simp [numeralref12_rounded.j0])
  | succ kj6 =>
   have H := HA.out
   clear HA
   simp only [numeralref12_rounded.j0] at H
   by_cases c11 : x22_6 = true
   ·subst c11
    have H1 : ((numeralref11_Signed.f a1 0 a0).bind fun t409 => (some (t409, 0, l2, l3))) = some (r1, r2, r3, r4) := by rw [if_pos rfl] at H; exact H
    clear H
    have H := H1
    clear H1
    replace H := Option.bind_eq_some_iff.mp H
    obtain ⟨t409, A120, H⟩ := H
    replace H : (some (t409, 0, l2, l3)) = some (r1, r2, r3, r4) := H
    have A12 := Aside0.mk A120
    clear A120
    simp only [Option.some.injEq, Prod.mk.injEq] at H
    obtain ⟨rfl, rfl, rfl, rfl⟩ := H
    go_wp2_with (first | ((with_reducible refine gate_callee (f := 19) rfl ?_); refine goesL_ (some 25) rfl rfl Tryd.func19 (by kernel_rfl) rfl #[.bool a1, .int .u64 0, .int .i64 a0] rfl (by (try simp only [List.map_toArray, List.map_cons, List.map_nil]); first | done | rfl | (simp only [List.length_drop, List.length_take]; rfl)) ?_; (with_reducible refine (numeralref11_Signed.calls a1 0 a0 t409 _ A12.out).mono ?_); rintro e w' ⟨rfl, ⟨nd, rfl⟩⟩; refine ⟨_, rfl, ?_⟩))
    go_ret2
    exact ⟨by first | rfl | (simp [errW_none, errW_some] <;> rfl) | (simp [*, errW_none, errW_some] <;> rfl), by (with_reducible repeat (first | apply Kd.R_alloc | apply Kd.R_drewN | apply Kd.R_drew)); exact Kd.R_mono HO_2.out (fun _ hk => hk.1), by (with_reducible repeat (first | apply Kd.R_alloc | apply Kd.R_drewN | apply Kd.R_drew)); exact Kd.R_mono HO_3.out (fun _ hk => hk.1), by repeat (first | (with_reducible first | exact HB.out | apply below_alloc | apply pw_below_drewN | apply below_drew1) | exact HB.out), by repeat (first | (with_reducible first | exact HK.out | apply Kept.alloc | apply Kept.drewN | apply Kept.drew) | exact HK.out)⟩
   ·replace c11 := Bool.eq_false_iff.mpr c11
    subst c11
    have H1 : ((numeralref11_Inf.f a0).bind fun t410 => (if a4 ≤ 20000 then ((numeralref12_Fraction.f kj6 a0 l2 l3 a4 a5).bind fun bt411 => (numeralref12_rounded.j1 kj6 a0 a1 bt411.2.2.1 bt411.2.2.2 bt411.1 bt411.2.1)) else (numeralref12_rounded.j1 kj6 a0 a1 l2 l3 t410 true))) = some (r1, r2, r3, r4) := by rw [if_neg (show ¬ (false = true) by decide)] at H; exact H
    clear H
    have H := H1
    clear H1
    replace H := Option.bind_eq_some_iff.mp H
    obtain ⟨t410, A130, H⟩ := H
    replace H : (if a4 ≤ 20000 then ((numeralref12_Fraction.f kj6 a0 l2 l3 a4 a5).bind fun bt411 => (numeralref12_rounded.j1 kj6 a0 a1 bt411.2.2.1 bt411.2.2.2 bt411.1 bt411.2.1)) else (numeralref12_rounded.j1 kj6 a0 a1 l2 l3 t410 true)) = some (r1, r2, r3, r4) := H
    have A13 := Aside0.mk A130
    clear A130
    have HC14 := Aside0.mk H
    clear H
    go_upto_if 29 with (first | ((with_reducible refine gate_callee (f := 18) rfl ?_); refine goesL_ (some 27) rfl rfl Tryd.func18 (by kernel_rfl) rfl #[.int .i64 a0] rfl (by (try simp only [List.map_toArray, List.map_cons, List.map_nil]); first | done | rfl | (simp only [List.length_drop, List.length_take]; rfl)) ?_; (with_reducible refine (numeralref11_Inf.calls a0 t410 _ A13.out).mono ?_); rintro e w' ⟨rfl, ⟨nd, rfl⟩⟩; refine ⟨_, rfl, ?_⟩))
    (try simp only [Act.put, List.setIfInBounds_toArray, List.set_cons_zero, List.set_cons_succ])
    go_cut [14, 15] (fun v14 v15 wc => ∃ (kq : Nat) (x2_13 : List Int) (x3_13 : List Int) (x14_13 : Int) (x15_13 : Bool), v14 = .int .u64 x14_13 ∧ v15 = .bool x15_13 ∧ Aside0 (numeralref12_rounded.j1 kq a0 a1 x2_13 x3_13 x14_13 x15_13 = some (r1, r2, r3, r4)) ∧ Aside0 (kq ≤ kj6) ∧ Aside0 (Kd.R (Kd.int .u32) 89 wc w0.heap.size (fun k_ => ((P2_ k_ ∨ P3_ k_) ∨ w.heap.size ≤ k_) ∧ some k_ ≠ (u9001_ : Value).ownBlock) u9000_ x2_13) ∧ Aside0 (Kd.R (Kd.int .u32) 89 wc w0.heap.size (fun k_ => ((P2_ k_ ∨ P3_ k_) ∨ w.heap.size ≤ k_) ∧ some k_ ≠ (u9000_ : Value).ownBlock) u9001_ x3_13) ∧ Aside0 (Kept w wc (fun k_ => P2_ k_ ∨ P3_ k_)) ∧ Aside0 (Below w0.heap.size w0 wc))
    case first =>
     have H := HC14.out
     clear HC14
     by_cases c15 : a4 ≤ 20000
     ·rw [if_pos c15] at H
      have c15b0 : decide (a4 ≤ 20000) = true := decide_eq_true c15
      clear c15
      (first | rw [c15b0] | (simp only [i64_w, i32_w]; rw [c15b0]) | skip)
      replace H := Option.bind_eq_some_iff.mp H
      obtain ⟨⟨t411, t412, t413, t414⟩, A160, H⟩ := H
      replace H : (numeralref12_rounded.j1 kj6 a0 a1 t413 t414 t411 t412) = some (r1, r2, r3, r4) := H
      have A16 := Aside0.mk A160
      clear A160
      have H' := Aside0.mk H
      clear H
      obtain ⟨Ao17, co17, eo17⟩ := Kd.R_slice HO_2.out
      subst eo17
      obtain ⟨Ao18, co18, eo18⟩ := Kd.R_slice HO_3.out
      subst eo18
      go_wp2_with (first | ((with_reducible refine gate_callee (f := 50) rfl ?_); refine goesL_ (some 36) rfl rfl Tryd.func50 (by kernel_rfl) rfl #[.int .i64 a0, .slice Ao17 l2.length co17, .slice Ao18 l3.length co18, .int .i64 a4, .bool a5] rfl (by (try simp only [List.map_toArray, List.map_cons, List.map_nil]); first | done | rfl | (simp only [List.length_drop, List.length_take]; rfl)) ?_; (with_reducible refine (numeralref12_Fraction.calls kj6 a0 (fun k_ => some k_ = (.slice Ao17 l2.length co17 : Value).ownBlock) (.slice Ao17 l2.length co17) l2 (fun k_ => some k_ = (.slice Ao18 l3.length co18 : Value).ownBlock) (.slice Ao18 l3.length co18) l3 a4 a5 t411 t412 t413 t414 w0 _ ?side1 ?side2 ?side3 ?side4 ?side5 A16.out).mono ?_); (case side1 => repeat (first | (with_reducible first | exact HB.out | apply below_alloc | apply pw_below_drewN | apply below_drew1) | exact HB.out)); (case side2 => exact Kd.R_tight rfl HO_2.out); (case side3 => exact fun k_ e_ => (HO_2.out.1 k_ e_.symm).2); (case side4 => exact Kd.R_tight rfl HO_3.out); (case side5 => exact fun k_ e_ => (HO_3.out.1 k_ e_.symm).2); rintro e w19 ⟨rfl, hy0, hy1, hb, hkp⟩; refine ⟨_, rfl, ?_⟩; have n0_ := Aside0.mk (Kd.R_reok rfl hy0 (fun k_ e_ => HO_2.out.1 k_ e_)); have n1_ := Aside0.mk (Kd.R_reok rfl hy1 (fun k_ e_ => HO_3.out.1 k_ e_)); have n2_ := Aside0.mk (Kept.then_ (S := (fun k_ => P2_ k_ ∨ P3_ k_)) (by repeat (first | (with_reducible first | exact HK.out | apply Kept.alloc | apply Kept.drewN | apply Kept.drew) | exact HK.out)) hkp (fun k_ hs_ => Or.elim hs_ (fun e_ => (fun e_ => (HO_2.out.1 k_ e_.symm).1) e_) (fun e_ => (fun e_ => (HO_3.out.1 k_ e_.symm).1) e_))); have n3_ := Aside0.mk (hb); clear HO_2; clear HO_3; clear HK; clear HB; have HO_2 := n0_; have HO_3 := n1_; have HK := n2_; have HB := n3_; clear n0_ n1_ n2_ n3_; (try clear hb); (try clear hkp); (try clear hy0); (try clear hy1)))
      go_meet
      case rel => exact ⟨_, (t413), (t414), (t411), (t412), (by first | rfl | (simp; done) | (simp [*]; done)), (by first | rfl | (simp; done) | (simp [*]; done)), H', ⟨by have := HJ6.out; first | omega | exact Nat.le_refl _⟩, ⟨by (with_reducible repeat (first | apply Kd.R_alloc | apply Kd.R_drewN | apply Kd.R_drew)); exact HO_2.out⟩, ⟨by (with_reducible repeat (first | apply Kd.R_alloc | apply Kd.R_drewN | apply Kd.R_drew)); exact HO_3.out⟩, ⟨by repeat (first | (with_reducible first | exact HK.out | apply Kept.alloc | apply Kept.drewN | apply Kept.drew) | exact HK.out)⟩, ⟨by repeat (first | (with_reducible first | exact HB.out | apply below_alloc | apply pw_below_drewN | apply below_drew1) | exact HB.out)⟩⟩
     ·rw [if_neg c15] at H
      have c15b0 : decide (a4 ≤ 20000) = false := decide_eq_false c15
      clear c15
      (first | rw [c15b0] | (simp only [i64_w, i32_w]; rw [c15b0]) | skip)
      have H' := Aside0.mk H
      clear H
      go_wp2
      go_meet
      case rel => exact ⟨_, (l2), (l3), (t410), (true), (by first | rfl | (simp; done) | (simp [*]; done)), (by first | rfl | (simp; done) | (simp [*]; done)), H', ⟨by have := HJ6.out; first | omega | exact Nat.le_refl _⟩, ⟨by (with_reducible repeat (first | apply Kd.R_alloc | apply Kd.R_drewN | apply Kd.R_drew)); exact HO_2.out⟩, ⟨by (with_reducible repeat (first | apply Kd.R_alloc | apply Kd.R_drewN | apply Kd.R_drew)); exact HO_3.out⟩, ⟨by repeat (first | (with_reducible first | exact HK.out | apply Kept.alloc | apply Kept.drewN | apply Kept.drew) | exact HK.out)⟩, ⟨by repeat (first | (with_reducible first | exact HB.out | apply below_alloc | apply pw_below_drewN | apply below_drew1) | exact HB.out)⟩⟩
    case rest =>
     clear HC14
     try clear c1
     try clear p2
     try clear c3
     try clear p3
     try clear c5
     try clear c8
     try clear c8b0
     try clear c8b1
     try clear c8b2
     try clear c11
     try clear c15
     try clear c15b0
     try clear c18
     try clear c19
     try clear p2
     try clear p3
     obtain ⟨kq, x2_13, x3_13, x14_13, x15_13, rfl, rfl, HA, HJ13, HO_2, HO_3, HK, HB⟩ := hcut
     cases kq with
     | zero => exact absurd HA.out (by simp [numeralref12_rounded.j1])
     | succ kj13 =>
      have H := HA.out
      clear HA
      simp only [numeralref12_rounded.j1] at H
      by_cases c20 : x15_13 = true
      ·subst c20
       have H1 : ((numeralref11_Signed.f a1 x14_13 a0).bind fun t415 => (some (t415, 4, x2_13, x3_13))) = some (r1, r2, r3, r4) := by rw [if_pos rfl] at H; exact H
       clear H
       have H := H1
       clear H1
       replace H := Option.bind_eq_some_iff.mp H
       obtain ⟨t415, A210, H⟩ := H
       replace H : (some (t415, 4, x2_13, x3_13)) = some (r1, r2, r3, r4) := H
       have A21 := Aside0.mk A210
       clear A210
       simp only [Option.some.injEq, Prod.mk.injEq] at H
       obtain ⟨rfl, rfl, rfl, rfl⟩ := H
       go_wp2_with (first | ((with_reducible refine gate_callee (f := 19) rfl ?_); refine goesL_ (some 43) rfl rfl Tryd.func19 (by kernel_rfl) rfl #[.bool a1, .int .u64 x14_13, .int .i64 a0] rfl (by (try simp only [List.map_toArray, List.map_cons, List.map_nil]); first | done | rfl | (simp only [List.length_drop, List.length_take]; rfl)) ?_; (with_reducible refine (numeralref11_Signed.calls a1 x14_13 a0 t415 _ A21.out).mono ?_); rintro e w' ⟨rfl, ⟨nd, rfl⟩⟩; refine ⟨_, rfl, ?_⟩))
       go_ret2
       exact ⟨by first | rfl | (simp [errW_none, errW_some] <;> rfl) | (simp [*, errW_none, errW_some] <;> rfl), by (with_reducible repeat (first | apply Kd.R_alloc | apply Kd.R_drewN | apply Kd.R_drew)); exact Kd.R_mono HO_2.out (fun _ hk => hk.1), by (with_reducible repeat (first | apply Kd.R_alloc | apply Kd.R_drewN | apply Kd.R_drew)); exact Kd.R_mono HO_3.out (fun _ hk => hk.1), by repeat (first | (with_reducible first | exact HB.out | apply below_alloc | apply pw_below_drewN | apply below_drew1) | exact HB.out), by repeat (first | (with_reducible first | exact HK.out | apply Kept.alloc | apply Kept.drewN | apply Kept.drew) | exact HK.out)⟩
      ·replace c20 := Bool.eq_false_iff.mpr c20
       subst c20
       have H1 : ((numeralref11_Signed.f a1 x14_13 a0).bind fun t416 => (some (t416, 0, x2_13, x3_13))) = some (r1, r2, r3, r4) := by rw [if_neg (show ¬ (false = true) by decide)] at H; exact H
       clear H
       have H := H1
       clear H1
       replace H := Option.bind_eq_some_iff.mp H
       obtain ⟨t416, A220, H⟩ := H
       replace H : (some (t416, 0, x2_13, x3_13)) = some (r1, r2, r3, r4) := H
       have A22 := Aside0.mk A220
       clear A220
       simp only [Option.some.injEq, Prod.mk.injEq] at H
       obtain ⟨rfl, rfl, rfl, rfl⟩ := H
       go_wp2_with (first | ((with_reducible refine gate_callee (f := 19) rfl ?_); refine goesL_ (some 47) rfl rfl Tryd.func19 (by kernel_rfl) rfl #[.bool a1, .int .u64 x14_13, .int .i64 a0] rfl (by (try simp only [List.map_toArray, List.map_cons, List.map_nil]); first | done | rfl | (simp only [List.length_drop, List.length_take]; rfl)) ?_; (with_reducible refine (numeralref11_Signed.calls a1 x14_13 a0 t416 _ A22.out).mono ?_); rintro e w' ⟨rfl, ⟨nd, rfl⟩⟩; refine ⟨_, rfl, ?_⟩))
       go_ret2
       exact ⟨by first | rfl | (simp [errW_none, errW_some] <;> rfl) | (simp [*, errW_none, errW_some] <;> rfl), by (with_reducible repeat (first | apply Kd.R_alloc | apply Kd.R_drewN | apply Kd.R_drew)); exact Kd.R_mono HO_2.out (fun _ hk => hk.1), by (with_reducible repeat (first | apply Kd.R_alloc | apply Kd.R_drewN | apply Kd.R_drew)); exact Kd.R_mono HO_3.out (fun _ hk => hk.1), by repeat (first | (with_reducible first | exact HB.out | apply below_alloc | apply pw_below_drewN | apply below_drew1) | exact HB.out), by repeat (first | (with_reducible first | exact HK.out | apply Kept.alloc | apply Kept.drewN | apply Kept.drew) | exact HK.out)⟩

/-! ### numeralref12_Whole: function 14 -/
def numeralref12_Whole.j0 : Nat → Int → Bool → Int → Int → Bool → Bool → Option (Int × Int)
 | 0, _, _, _, _, _, _ => none
 | k + 1, x0, x1, x2, x3, x4, x16 => if x16 = true then (some (0, 1)) else ((numeralref02_Small.f k x2).bind fun t418 => ((numeralref02_Small.f k 1).bind fun t421 => ((numeralref12_rounded.f k x0 x1 t418 t421 x3 x4).bind fun bt424 => (some (bt424.1, bt424.2.1)))))
def numeralref12_Whole.f (k : Nat) (a0 : Int) (a1 : Bool) (a2 : Int) (a3 : Int) (a4 : Bool) : Option (Int × Int) := (numeralref11_Size.f a0).bind fun t417 => (if t417 = true then (if a3 < (-1099511627776) then (numeralref12_Whole.j0 k a0 a1 a2 a3 a4 true) else (numeralref12_Whole.j0 k a0 a1 a2 a3 a4 (decide (a3 > 1099511627776)))) else (some (0, 5)))
theorem numeralref12_Whole.mono_l : ∀ k, (∀ y0 y1 y2 y3 y4 y5, LeO (numeralref12_Whole.j0 k y0 y1 y2 y3 y4 y5) (numeralref12_Whole.j0 (k + 1) y0 y1 y2 y3 y4 y5))
 | 0 => fun _ _ _ _ _ _ r h => by simp [numeralref12_Whole.j0] at h
 | k + 1 => by
  have ih0 := numeralref12_Whole.mono_l k
  ·intro y0 y1 y2 y3 y4 y5
   unfold numeralref12_Whole.j0
   repeat' first
   | (with_reducible exact ih0 _ _ _ _ _ _)
   | (with_reducible exact numeralref02_Small.mono _ _)
   | (with_reducible exact numeralref12_rounded.mono _ _ _ _ _ _ _)
   | (with_reducible exact LeO.refl _)
   | (with_reducible exact LeO.none _)
   | (with_reducible refine LeO.ite ?_ ?_)
   | (with_reducible refine LeO.bind ?_ (fun _ => ?_))
   | exact ih0 _ _ _ _ _ _
   | exact numeralref02_Small.mono _ _
   | exact numeralref12_rounded.mono _ _ _ _ _ _ _
   | exact LeO.none _
   | refine LeO.ite ?_ ?_
   | refine LeO.bind ?_ (fun _ => ?_)
theorem numeralref12_Whole.mono : ∀ a0 a1 a2 a3 a4 k, LeO (numeralref12_Whole.f k a0 a1 a2 a3 a4) (numeralref12_Whole.f (k + 1) a0 a1 a2 a3 a4) := by
 intro a0 a1 a2 a3 a4 k
 have ih0 := numeralref12_Whole.mono_l k
 unfold numeralref12_Whole.f
 repeat' first
   | (with_reducible exact ih0 _ _ _ _ _ _)
   | (with_reducible exact numeralref02_Small.mono _ _)
   | (with_reducible exact numeralref12_rounded.mono _ _ _ _ _ _ _)
   | (with_reducible exact LeO.refl _)
   | (with_reducible exact LeO.none _)
   | (with_reducible refine LeO.ite ?_ ?_)
   | (with_reducible refine LeO.bind ?_ (fun _ => ?_))
   | exact ih0 _ _ _ _ _ _
   | exact numeralref02_Small.mono _ _
   | exact numeralref12_rounded.mono _ _ _ _ _ _ _
   | exact LeO.none _
   | refine LeO.ite ?_ ?_
   | refine LeO.bind ?_ (fun _ => ?_)
set_option maxHeartbeats 8000000 in
set_option maxRecDepth 100000 in
theorem numeralref12_Whole.calls (k : Nat) (a0 : Int) (a1 : Bool) (a2 : Int) (a3 : Int) (a4 : Bool) (r1 : Int) (r2 : Int) (w : World) (h : numeralref12_Whole.f k a0 a1 a2 a3 a4 = some (r1, r2)) :
  Calls Tryd.prog 14 #[.int .i64 a0, .bool a1, .int .u64 a2, .int .i64 a3, .bool a4] w fun e w' => e = .returned (.tuple #[.int .u64 r1, .int .i64 r2]) ∧ Below w.heap.size w w' := by
 have HB := Aside0.mk (Below.refl w.heap.size w)
 have H : ((numeralref11_Size.f a0).bind fun t417 => (if t417 = true then (if a3 < (-1099511627776) then (numeralref12_Whole.j0 k a0 a1 a2 a3 a4 true) else (numeralref12_Whole.j0 k a0 a1 a2 a3 a4 (decide (a3 > 1099511627776)))) else (some (0, 5)))) = some (r1, r2) := h
 clear h
 replace H := Option.bind_eq_some_iff.mp H
 obtain ⟨t417, A60, H⟩ := H
 replace H : (if t417 = true then (if a3 < (-1099511627776) then (numeralref12_Whole.j0 k a0 a1 a2 a3 a4 true) else (numeralref12_Whole.j0 k a0 a1 a2 a3 a4 (decide (a3 > 1099511627776)))) else (some (0, 5))) = some (r1, r2) := H
 have A6 := Aside0.mk A60
 clear A60
 by_cases c7 : t417 = true
 ·subst c7
  have H1 : (if a3 < (-1099511627776) then (numeralref12_Whole.j0 k a0 a1 a2 a3 a4 true) else (numeralref12_Whole.j0 k a0 a1 a2 a3 a4 (decide (a3 > 1099511627776)))) = some (r1, r2) := by rw [if_pos rfl] at H; exact H
  clear H
  have H := H1
  clear H1
  have HC8 := Aside0.mk H
  clear H
  go_enter Tryd.func14, Tryd.ntmps14
  go_upto_region 3 with (first | ((with_reducible refine gate_callee (f := 16) rfl ?_); refine goesL_ (some 14) rfl rfl Tryd.func16 (by kernel_rfl) rfl #[.int .i64 a0] rfl (by (try simp only [List.map_toArray, List.map_cons, List.map_nil]); first | done | rfl | (simp only [List.length_drop, List.length_take]; rfl)) ?_; (with_reducible refine (numeralref11_Size.calls a0 true _ A6.out).mono ?_); rintro e w' ⟨rfl, ⟨nd, rfl⟩⟩; refine ⟨_, rfl, ?_⟩))
  (try simp only [Act.put, List.setIfInBounds_toArray, List.set_cons_zero, List.set_cons_succ])
  go_cut [16] (fun v16 wc => ∃ (kq : Nat) (x16_7 : Bool), v16 = .bool x16_7 ∧ Aside0 (numeralref12_Whole.j0 kq a0 a1 a2 a3 a4 x16_7 = some (r1, r2)) ∧ Aside0 (kq ≤ k) ∧ Aside0 (Below w.heap.size w wc))
  case first =>
   have H := HC8.out
   clear HC8
   by_cases c9 : a3 < (-1099511627776)
   ·rw [if_pos c9] at H
    have c9b0 : decide (a3 < (-1099511627776)) = true := decide_eq_true c9
    clear c9
    (first | rw [c9b0] | (simp only [i64_w, i32_w]; rw [c9b0]) | skip)
    have H' := Aside0.mk H
    clear H
    go_wp2
    go_meet
    case rel => exact ⟨_, (true), (by first | rfl | (simp; done) | (simp [*]; done)), H', ⟨by first | omega | exact Nat.le_refl _⟩, ⟨by repeat (first | (with_reducible first | exact HB.out | apply below_alloc | apply pw_below_drewN | apply below_drew1) | exact HB.out)⟩⟩
   ·rw [if_neg c9] at H
    have c9b0 : decide (a3 < (-1099511627776)) = false := decide_eq_false c9
    clear c9
    (first | rw [c9b0] | (simp only [i64_w, i32_w]; rw [c9b0]) | skip)
    have H' := Aside0.mk H
    clear H
    go_wp2
    go_meet
    case rel => exact ⟨_, (decide (a3 > 1099511627776)), (by first | rfl | (simp; done) | (simp [*]; done)), H', ⟨by first | omega | exact Nat.le_refl _⟩, ⟨by repeat (first | (with_reducible first | exact HB.out | apply below_alloc | apply pw_below_drewN | apply below_drew1) | exact HB.out)⟩⟩
  case rest =>
   clear HC8
   try clear c1
   try clear p2
   try clear c7
   try clear c9
   try clear c9b0
   obtain ⟨kq, x16_7, rfl, HA, HJ7, HB⟩ := hcut
   cases kq with
   | zero => exact absurd HA.out (by simp [numeralref12_Whole.j0])
   | succ kj7 =>
    have H := HA.out
    clear HA
    simp only [numeralref12_Whole.j0] at H
    by_cases c10 : x16_7 = true
    ·subst c10
     have H1 : (some (0, 1)) = some (r1, r2) := by rw [if_pos rfl] at H; exact H
     clear H
     have H := H1
     clear H1
     simp only [Option.some.injEq, Prod.mk.injEq] at H
     obtain ⟨rfl, rfl⟩ := H
     go_wp2
     go_ret2
     exact ⟨by first | rfl | (simp [errW_none, errW_some] <;> rfl) | (simp [*, errW_none, errW_some] <;> rfl), by repeat (first | (with_reducible first | exact HB.out | apply below_alloc | apply pw_below_drewN | apply below_drew1) | exact HB.out)⟩
    ·replace c10 := Bool.eq_false_iff.mpr c10
     subst c10
     have H1 : ((numeralref02_Small.f kj7 a2).bind fun t418 => ((numeralref02_Small.f kj7 1).bind fun t421 => ((numeralref12_rounded.f kj7 a0 a1 t418 t421 a3 a4).bind fun bt424 => (some (bt424.1, bt424.2.1))))) = some (r1, r2) := by rw [if_neg (show ¬ (false = true) by decide)] at H; exact H
     clear H
     have H := H1
     clear H1
     replace H := Option.bind_eq_some_iff.mp H
     obtain ⟨t418, A110, H⟩ := H
     replace H : ((numeralref02_Small.f kj7 1).bind fun t421 => ((numeralref12_rounded.f kj7 a0 a1 t418 t421 a3 a4).bind fun bt424 => (some (bt424.1, bt424.2.1)))) = some (r1, r2) := H
     have A11 := Aside0.mk A110
     clear A110
     replace H := Option.bind_eq_some_iff.mp H
     obtain ⟨t421, A120, H⟩ := H
     replace H : ((numeralref12_rounded.f kj7 a0 a1 t418 t421 a3 a4).bind fun bt424 => (some (bt424.1, bt424.2.1))) = some (r1, r2) := H
     have A12 := Aside0.mk A120
     clear A120
     replace H := Option.bind_eq_some_iff.mp H
     obtain ⟨⟨t424, t425, t426, t427⟩, A130, H⟩ := H
     replace H : (some (t424, t425)) = some (r1, r2) := H
     have A13 := Aside0.mk A130
     clear A130
     simp only [Option.some.injEq, Prod.mk.injEq] at H
     obtain ⟨rfl, rfl⟩ := H
     go_wp2_with (first | ((with_reducible refine gate_callee (f := 38) rfl ?_); refine goesL_ (some 26) rfl rfl Tryd.func38 (by kernel_rfl) rfl #[.int .u64 a2] rfl (by (try simp only [List.map_toArray, List.map_cons, List.map_nil]); first | done | rfl | (simp only [List.length_drop, List.length_take]; rfl)) ?_; (with_reducible refine (numeralref02_Small.calls kj7 a2 t418 _ A11.out).mono ?_); rintro e w14 ⟨v419, rfl, ho0, hb⟩; refine ⟨_, rfl, ?_⟩; have n0_ := Aside0.mk (Kd.R_lower ho0 (below_size (by repeat (first | (with_reducible first | exact HB.out | apply below_alloc | apply pw_below_drewN | apply below_drew1) | exact HB.out)))); have n1_ := Aside0.mk (below_step (by repeat (first | (with_reducible first | exact HB.out | apply below_alloc | apply pw_below_drewN | apply below_drew1) | exact HB.out)) hb); clear HB; have HO420 := n0_; have HB := n1_; clear n0_ n1_; (try clear hb); (try clear hb2); (try clear hk); (try clear hi); (try clear ho0)) | ((with_reducible refine gate_callee (f := 38) rfl ?_); refine goesL_ (some 27) rfl rfl Tryd.func38 (by kernel_rfl) rfl #[.int .u64 1] rfl (by (try simp only [List.map_toArray, List.map_cons, List.map_nil]); first | done | rfl | (simp only [List.length_drop, List.length_take]; rfl)) ?_; (with_reducible refine (numeralref02_Small.calls kj7 1 t421 _ A12.out).mono ?_); rintro e w15 ⟨v422, rfl, ho0, hb⟩; refine ⟨_, rfl, ?_⟩; have n0_ := Aside0.mk (Kd.R_elder' (by (with_reducible repeat (first | apply Kd.R_alloc | apply Kd.R_drewN | apply Kd.R_drew)); exact HO420.out) (Kd.R_base ho0) hb); have n1_ := Aside0.mk (Kd.R_lower (Kd.R_new' ho0 (Kd.R_lt (by (with_reducible repeat (first | apply Kd.R_alloc | apply Kd.R_drewN | apply Kd.R_drew)); exact HO420.out))) (below_size (by repeat (first | (with_reducible first | exact HB.out | apply below_alloc | apply pw_below_drewN | apply below_drew1) | exact HB.out)))); have n2_ := Aside0.mk (below_step (by repeat (first | (with_reducible first | exact HB.out | apply below_alloc | apply pw_below_drewN | apply below_drew1) | exact HB.out)) hb); clear HO420; clear HB; have HO420 := n0_; have HO423 := n1_; have HB := n2_; clear n0_ n1_ n2_; (try clear hb); (try clear hb2); (try clear hk); (try clear hi); (try clear ho0); obtain ⟨Ao16, co16, eo16⟩ := Kd.R_slice HO420.out; subst eo16; obtain ⟨Ao17, co17, eo17⟩ := Kd.R_slice HO423.out; subst eo17) | ((with_reducible refine gate_callee (f := 35) rfl ?_); refine goesL_ (some 30) rfl rfl Tryd.func35 (by kernel_rfl) rfl #[.int .i64 a0, .bool a1, .slice Ao16 t418.length co16, .slice Ao17 t421.length co17, .int .i64 a3, .bool a4] rfl (by (try simp only [List.map_toArray, List.map_cons, List.map_nil]); first | done | rfl | (simp only [List.length_drop, List.length_take]; rfl)) ?_; (with_reducible refine (numeralref12_rounded.calls kj7 a0 a1 (fun k_ => some k_ = (.slice Ao16 t418.length co16 : Value).ownBlock) (.slice Ao16 t418.length co16) t418 (fun k_ => some k_ = (.slice Ao17 t421.length co17 : Value).ownBlock) (.slice Ao17 t421.length co17) t421 a3 a4 t424 t425 t426 t427 w _ ?side1 ?side2 ?side3 ?side4 ?side5 A13.out).mono ?_); (case side1 => repeat (first | (with_reducible first | exact HB.out | apply below_alloc | apply pw_below_drewN | apply below_drew1) | exact HB.out)); (case side2 => exact Kd.R_tight rfl HO420.out); (case side3 => exact fun k_ e_ => (HO420.out.1 k_ e_.symm).2); (case side4 => exact Kd.R_tight rfl HO423.out); (case side5 => exact fun k_ e_ => (HO423.out.1 k_ e_.symm).2); rintro e w18 ⟨rfl, hy0, hy1, hb, hkp⟩; refine ⟨_, rfl, ?_⟩; have n0_ := Aside0.mk (Kd.R_reok rfl hy0 (fun k_ e_ => HO420.out.1 k_ e_)); have n1_ := Aside0.mk (Kd.R_reok rfl hy1 (fun k_ e_ => HO423.out.1 k_ e_)); have n2_ := Aside0.mk (hb); clear HO420; clear HO423; clear HB; have HO420 := n0_; have HO423 := n1_; have HB := n2_; clear n0_ n1_ n2_; (try clear hb); (try clear hkp); (try clear hy0); (try clear hy1)))
     go_ret2
     exact ⟨by first | rfl | (simp [errW_none, errW_some] <;> rfl) | (simp [*, errW_none, errW_some] <;> rfl), by repeat (first | (with_reducible first | exact HB.out | apply below_alloc | apply pw_below_drewN | apply below_drew1) | exact HB.out)⟩
 ·replace c7 := Bool.eq_false_iff.mpr c7
  subst c7
  have H1 : (some (0, 5)) = some (r1, r2) := by rw [if_neg (show ¬ (false = true) by decide)] at H; exact H
  clear H
  have H := H1
  clear H1
  simp only [Option.some.injEq, Prod.mk.injEq] at H
  obtain ⟨rfl, rfl⟩ := H
  go_enter Tryd.func14, Tryd.ntmps14
  go_wp2_with (first | ((with_reducible refine gate_callee (f := 16) rfl ?_); refine goesL_ (some 14) rfl rfl Tryd.func16 (by kernel_rfl) rfl #[.int .i64 a0] rfl (by (try simp only [List.map_toArray, List.map_cons, List.map_nil]); first | done | rfl | (simp only [List.length_drop, List.length_take]; rfl)) ?_; (with_reducible refine (numeralref11_Size.calls a0 false _ A6.out).mono ?_); rintro e w' ⟨rfl, ⟨nd, rfl⟩⟩; refine ⟨_, rfl, ?_⟩))
  go_ret2
  exact ⟨by first | rfl | (simp [errW_none, errW_some] <;> rfl) | (simp [*, errW_none, errW_some] <;> rfl), by repeat (first | (with_reducible first | exact HB.out | apply below_alloc | apply pw_below_drewN | apply below_drew1) | exact HB.out)⟩

/-! ### numerallaw12_RoundWholes: function 4 -/
def numerallaw12_RoundWholes.f (k : Nat) (a0_0 : Int) (a0_1 : Bool) (a0_2 : Bool) (a0_3 : Int) (a0_4 : Int) : Option (Bool) := (round_Whole.f k a0_0 a0_1 a0_3 a0_4 a0_2).bind fun bt429 => ((numeralref12_Whole.f k a0_0 a0_1 a0_3 a0_4 a0_2).bind fun bt431 => (if bt429.1 = bt431.1 then ((numerallaw12_num.f bt429.2).bind fun t433 => (if t433 = bt431.2 then ((numerallaw12_works.f k).bind fun t434 => (some t434)) else (none))) else (none)))
theorem numerallaw12_RoundWholes.mono : ∀ a0 a1 a2 a3 a4 k, LeO (numerallaw12_RoundWholes.f k a0 a1 a2 a3 a4) (numerallaw12_RoundWholes.f (k + 1) a0 a1 a2 a3 a4) := by
 intro a0 a1 a2 a3 a4 k
 unfold numerallaw12_RoundWholes.f
 repeat' first
   | (with_reducible exact numerallaw12_works.mono _)
   | (with_reducible exact numeralref12_Whole.mono _ _ _ _ _ _)
   | (with_reducible exact round_Whole.mono _ _ _ _ _ _)
   | (with_reducible exact LeO.refl _)
   | (with_reducible exact LeO.none _)
   | (with_reducible refine LeO.ite ?_ ?_)
   | (with_reducible refine LeO.bind ?_ (fun _ => ?_))
   | exact numerallaw12_works.mono _
   | exact numeralref12_Whole.mono _ _ _ _ _ _
   | exact round_Whole.mono _ _ _ _ _ _
   | exact LeO.none _
   | refine LeO.ite ?_ ?_
   | refine LeO.bind ?_ (fun _ => ?_)
set_option maxHeartbeats 8000000 in
set_option maxRecDepth 100000 in
theorem numerallaw12_RoundWholes.calls (k : Nat) (a0_0 : Int) (a0_1 : Bool) (a0_2 : Bool) (a0_3 : Int) (a0_4 : Int) (r : Bool) (w : World) (hl_DB64 : Laid_DB64 w) (h : numerallaw12_RoundWholes.f k a0_0 a0_1 a0_2 a0_3 a0_4 = some r) :
  Calls Tryd.prog 4 #[.agg #[.int .i64 a0_0, .bool a0_1, .bool a0_2, .int .u64 a0_3, .int .i64 a0_4]] w fun e w' => e = .returned (.bool r) ∧ Below w.heap.size w w' := by
 have hu39 := Tryd.underlying39
 have HB := Aside0.mk (Below.refl w.heap.size w)
 have HL_DB64 := Aside0.mk hl_DB64
 clear hl_DB64
 have H : ((round_Whole.f k a0_0 a0_1 a0_3 a0_4 a0_2).bind fun bt429 => ((numeralref12_Whole.f k a0_0 a0_1 a0_3 a0_4 a0_2).bind fun bt431 => (if bt429.1 = bt431.1 then ((numerallaw12_num.f bt429.2).bind fun t433 => (if t433 = bt431.2 then ((numerallaw12_works.f k).bind fun t434 => (some t434)) else (none))) else (none)))) = some r := h
 clear h
 replace H := Option.bind_eq_some_iff.mp H
 obtain ⟨⟨t429, t430⟩, A20, H⟩ := H
 replace H : ((numeralref12_Whole.f k a0_0 a0_1 a0_3 a0_4 a0_2).bind fun bt431 => (if t429 = bt431.1 then ((numerallaw12_num.f t430).bind fun t433 => (if t433 = bt431.2 then ((numerallaw12_works.f k).bind fun t434 => (some t434)) else (none))) else (none))) = some r := H
 have A2 := Aside0.mk A20
 clear A20
 replace H := Option.bind_eq_some_iff.mp H
 obtain ⟨⟨t431, t432⟩, A30, H⟩ := H
 replace H : (if t429 = t431 then ((numerallaw12_num.f t430).bind fun t433 => (if t433 = t432 then ((numerallaw12_works.f k).bind fun t434 => (some t434)) else (none))) else (none)) = some r := H
 have A3 := Aside0.mk A30
 clear A30
 by_cases c4 : t429 = t431
 ·rw [if_pos c4] at H
  have c4b0 : (t429 == t431) = true := beq_iff_eq.mpr c4
  have c4b1 : (t429 != t431) = false := bne_eq_false_iff_eq.mpr c4
  clear c4
  replace H := Option.bind_eq_some_iff.mp H
  obtain ⟨t433, A50, H⟩ := H
  replace H : (if t433 = t432 then ((numerallaw12_works.f k).bind fun t434 => (some t434)) else (none)) = some r := H
  have A5 := Aside0.mk A50
  clear A50
  by_cases c6 : t433 = t432
  ·rw [if_pos c6] at H
   have c6b0 : (t433 == t432) = true := beq_iff_eq.mpr c6
   have c6b1 : (t433 != t432) = false := bne_eq_false_iff_eq.mpr c6
   clear c6
   replace H := Option.bind_eq_some_iff.mp H
   obtain ⟨t434, A70, H⟩ := H
   replace H : (some t434) = some r := H
   have A7 := Aside0.mk A70
   clear A70
   obtain rfl := Option.some.inj H
   go_enter Tryd.func4, Tryd.ntmps4
   go_wp2_with (first | ((with_reducible refine gate_dst (N := 1) rfl ?_); refine box_event ?hg (N := 1) ?hd (cs := #[.int .i64 a0_0, .bool a0_1, .bool a0_2, .int .u64 a0_3, .int .i64 a0_4]) (t := 39) ?hr ?_; (case hd => rfl); (case hg => rfl); (case hr => first | (go_simp; done) | (go_simp; rfl)); intro gb428 hg w8 hbox hb; have n0_ := Aside0.mk (below_step (by repeat (first | (with_reducible first | exact HB.out | apply below_alloc | apply pw_below_drewN | apply below_drew1) | exact HB.out)) hb); have n1_ := Aside0.mk (hbox); have n2_ := Aside0.mk ((by rw [hg]; exact (below_size (by repeat (first | (with_reducible first | exact HB.out | apply below_alloc | apply pw_below_drewN | apply below_drew1) | exact HB.out))) : w.heap.size ≤ gb428)); have n3_ := Aside0.mk ((by rw [hg]; exact (below_size (by repeat (first | (with_reducible first | exact HB.out | apply below_alloc | apply pw_below_drewN | apply below_drew1) | exact HB.out))) : w.heap.size ≤ gb428)); clear HB; have HB := n0_; have BK428 := n1_; have GW428 := n2_; have GE428 := n3_; clear n0_ n1_ n2_ n3_; clear hb hbox hg; have hcz9_0 : w8.cell? ⟨gb428, 0, none⟩ = some (.int .i64 a0_0) := (blk_cell BK428.out 0).trans rfl; have hcz9_1 : w8.cell? ⟨gb428, 1, none⟩ = some (.bool a0_1) := (blk_cell BK428.out 1).trans rfl; have hcz9_2 : w8.cell? ⟨gb428, 2, none⟩ = some (.bool a0_2) := (blk_cell BK428.out 2).trans rfl; have hcz9_3 : w8.cell? ⟨gb428, 3, none⟩ = some (.int .u64 a0_3) := (blk_cell BK428.out 3).trans rfl; have hcz9_4 : w8.cell? ⟨gb428, 4, none⟩ = some (.int .i64 a0_4) := (blk_cell BK428.out 4).trans rfl; have hfz9_0 := blk_frozen BK428.out 0; have hfz9_1 := blk_frozen BK428.out 1; have hfz9_2 := blk_frozen BK428.out 2; have hfz9_3 := blk_frozen BK428.out 3; have hfz9_4 := blk_frozen BK428.out 4) | ((with_reducible refine gate_callee (f := 13) rfl ?_); refine goesL_ (some 18) rfl rfl Tryd.func13 (by kernel_rfl) rfl #[.int .i64 a0_0, .bool a0_1, .int .u64 a0_3, .int .i64 a0_4, .bool a0_2] rfl (by (try simp only [List.map_toArray, List.map_cons, List.map_nil]); first | done | rfl | (simp only [List.length_drop, List.length_take]; rfl)) ?_; (with_reducible refine (round_Whole.calls k a0_0 a0_1 a0_3 a0_4 a0_2 t429 t430 _ ?side1 A2.out).mono ?_); (case side1 => exact Laid_DB64.of_below HL_DB64.out (by repeat (first | (with_reducible first | exact HB.out | apply below_alloc | apply pw_below_drewN | apply below_drew1 | refine below_set ?_ GE428.out) | exact HB.out))); rintro e w10 ⟨rfl, hb⟩; refine ⟨_, rfl, ?_⟩; have n0_ := Aside0.mk (blk_below (g := gb428) (o := .cells #[.int .i64 a0_0, .bool a0_1, .bool a0_2, .int .u64 a0_3, .int .i64 a0_4] 39 (0, 0)) (by (with_reducible repeat (first | refine blk_drewN ?_ _ | refine blk_drew ?_ | refine blk_alloc ?_ _)); exact BK428.out) hb); have n1_ := Aside0.mk (below_step (by repeat (first | (with_reducible first | exact HB.out | apply below_alloc | apply pw_below_drewN | apply below_drew1 | refine below_set ?_ GE428.out) | exact HB.out)) hb); clear BK428; clear HB; have BK428 := n0_; have HB := n1_; clear n0_ n1_; (try clear hb); (try clear hb2); (try clear hk); (try clear hi); (try simp only [errW_none, errW_some]); have hcz11_0 : w10.cell? ⟨gb428, 0, none⟩ = some (.int .i64 a0_0) := (blk_cell BK428.out 0).trans rfl; have hcz11_1 : w10.cell? ⟨gb428, 1, none⟩ = some (.bool a0_1) := (blk_cell BK428.out 1).trans rfl; have hcz11_2 : w10.cell? ⟨gb428, 2, none⟩ = some (.bool a0_2) := (blk_cell BK428.out 2).trans rfl; have hcz11_3 : w10.cell? ⟨gb428, 3, none⟩ = some (.int .u64 a0_3) := (blk_cell BK428.out 3).trans rfl; have hcz11_4 : w10.cell? ⟨gb428, 4, none⟩ = some (.int .i64 a0_4) := (blk_cell BK428.out 4).trans rfl; have hfz11_0 := blk_frozen BK428.out 0; have hfz11_1 := blk_frozen BK428.out 1; have hfz11_2 := blk_frozen BK428.out 2; have hfz11_3 := blk_frozen BK428.out 3; have hfz11_4 := blk_frozen BK428.out 4) | ((with_reducible refine gate_callee (f := 14) rfl ?_); refine goesL_ (some 32) rfl rfl Tryd.func14 (by kernel_rfl) rfl #[.int .i64 a0_0, .bool a0_1, .int .u64 a0_3, .int .i64 a0_4, .bool a0_2] rfl (by (try simp only [List.map_toArray, List.map_cons, List.map_nil]); first | done | rfl | (simp only [List.length_drop, List.length_take]; rfl)) ?_; (with_reducible refine (numeralref12_Whole.calls k a0_0 a0_1 a0_3 a0_4 a0_2 t431 t432 _ A3.out).mono ?_); rintro e w12 ⟨rfl, hb⟩; refine ⟨_, rfl, ?_⟩; have n0_ := Aside0.mk (blk_below (g := gb428) (o := .cells #[.int .i64 a0_0, .bool a0_1, .bool a0_2, .int .u64 a0_3, .int .i64 a0_4] 39 (0, 0)) (by (with_reducible repeat (first | refine blk_drewN ?_ _ | refine blk_drew ?_ | refine blk_alloc ?_ _)); exact BK428.out) hb); have n1_ := Aside0.mk (below_step (by repeat (first | (with_reducible first | exact HB.out | apply below_alloc | apply pw_below_drewN | apply below_drew1 | refine below_set ?_ GE428.out) | exact HB.out)) hb); clear BK428; clear HB; have BK428 := n0_; have HB := n1_; clear n0_ n1_; (try clear hb); (try clear hb2); (try clear hk); (try clear hi); have CA5 := fun W => numerallaw12_num.calls t430 t433 W A5.out; try simp only [errW_none, errW_some] at CA5) | (go_at_call 10; (with_reducible refine (CA5 _).mono ?_); rintro e w' ⟨rfl, ⟨nd, rfl⟩⟩) | (go_at_call 12; (with_reducible refine (numerallaw12_works.calls k  t434 _ ?side1 A7.out).mono ?_); (case side1 => exact Laid_DB64.of_below HL_DB64.out (by repeat (first | (with_reducible first | exact HB.out | apply below_alloc | apply pw_below_drewN | apply below_drew1 | refine below_set ?_ GE428.out) | exact HB.out))); rintro e w13 ⟨rfl, hb⟩; have n0_ := Aside0.mk (blk_below (g := gb428) (o := .cells #[.int .i64 a0_0, .bool a0_1, .bool a0_2, .int .u64 a0_3, .int .i64 a0_4] 39 (0, 0)) (by (with_reducible repeat (first | refine blk_drewN ?_ _ | refine blk_drew ?_ | refine blk_alloc ?_ _)); exact BK428.out) hb); have n1_ := Aside0.mk (below_step (by repeat (first | (with_reducible first | exact HB.out | apply below_alloc | apply pw_below_drewN | apply below_drew1 | refine below_set ?_ GE428.out) | exact HB.out)) hb); clear BK428; clear HB; have BK428 := n0_; have HB := n1_; clear n0_ n1_; (try clear hb); (try clear hb2); (try clear hk); (try clear hi)))
   go_ret
   exact ⟨by first | rfl | (simp [errW_none, errW_some] <;> rfl) | (simp [*, errW_none, errW_some] <;> rfl), by repeat (first | (with_reducible first | exact HB.out | apply below_alloc | apply pw_below_drewN | apply below_drew1 | refine below_set ?_ GE428.out) | exact HB.out)⟩
  ·rw [if_neg c6] at H
   exact absurd H (by simp)
 ·rw [if_neg c4] at H
  exact absurd H (by simp)

/-- THE ONE PURE STATEMENT of numerallaw12_RoundWholes: mine to prove. -/
def numerallaw12_RoundWholes.Pure : Prop := ∀ (a0_0 : Int) (a0_1 : Bool) (a0_2 : Bool) (a0_3 : Int) (a0_4 : Int), (Lit.int .i64 a0_0).wf = true → (Lit.int .u64 a0_3).wf = true → (Lit.int .i64 a0_4).wf = true → ∃ k, numerallaw12_RoundWholes.f k a0_0 a0_1 a0_2 a0_3 a0_4 = some true
theorem numerallaw12_RoundWholes.walk (P : numerallaw12_RoundWholes.Pure) (a0_0 : Int) (a0_1 : Bool) (a0_2 : Bool) (a0_3 : Int) (a0_4 : Int) (w : World) (w0_0 : (Lit.int .i64 a0_0).wf = true) (w0_3 : (Lit.int .u64 a0_3).wf = true) (w0_4 : (Lit.int .i64 a0_4).wf = true) (hl_DB64 : Laid_DB64 w) :
  Calls Tryd.prog 4 #[.agg #[.int .i64 a0_0, .bool a0_1, .bool a0_2, .int .u64 a0_3, .int .i64 a0_4]] w fun e w' => e = .returned (.bool true) ∧ Below w.heap.size w w' := by
 obtain ⟨k, h⟩ := P a0_0 a0_1 a0_2 a0_3 a0_4 w0_0 w0_3 w0_4
 refine (numerallaw12_RoundWholes.calls k a0_0 a0_1 a0_2 a0_3 a0_4 true w hl_DB64 h).mono ?_
 rintro e w' ⟨rfl, hd⟩
 exact ⟨rfl, hd⟩

end Go.Proofs.YtbjmfocjigikgaaDoor.Xw
