-- PRINTED by print.py (a twelfth state) out of the translation. Not trusted: Lean checks it.
import Derived.Test.YtbnmchaldolpfaaDoorXox0
import Derived.Test.YtbnmchaldolpfaaDoorXox5
import Derived.Test.YtbnmchaldolpfaaDoorXox6
import Derived.Test.YtbnmchaldolpfaaDoorXox7
import Derived.Test.YtbnmchaldolpfaaDoorXox8
import Derived.Test.YtbnmchaldolpfaaDoorXox9
namespace Go.Proofs.YtbnmchaldolpfaaDoor.Xo
open Go.RowKit Go.Proofs.YtbnmchaldolpfaaDoorW.PrintWords Go.Proofs.YtbnmchaldolpfaaDoorW.PrintLast Go.Proofs.YtbnmchaldolpfaaDoorW.PrintMore
attribute [local go_sem] max2_int min2_int max_two min_two max_three min_three max_four min_four   -- for this text's walks alone
set_option linter.unusedVariables false
set_option linter.unusedSimpArgs false

/-! ### numeralref13_Nearest: function 37 -/
mutual
def numeralref13_Nearest.l0 : Nat → List Int → List Int → Int → Int → Int → Int → Option (Int × Bool × List Int × List Int)
 | 0, _, _, _, _, _, _ => none
 | k + 1, x0, x1, x2, x3, x10, x11 => if x11 ≥ 0 then ((numeralref13_Shl.f k x1 x11).bind fun t275 => (numeralref13_Nearest.j1 k x0 x1 x2 x3 x10 x11 x0 t275)) else ((numeralref13_Shl.f k x0 (wrap64 (-x11))).bind fun t278 => (numeralref13_Nearest.j1 k x0 x1 x2 x3 x10 x11 t278 x1))
def numeralref13_Nearest.j1 : Nat → List Int → List Int → Int → Int → Int → Int → List Int → List Int → Option (Int × Bool × List Int × List Int)
 | 0, _, _, _, _, _, _, _, _ => none
 | k + 1, x0, x1, x2, x3, x10, x11, x12, x13 => (numeralref13_Div.f k x12 x13).bind fun bt281 => ((numeralref13_Bits.f k bt281.1).bind fun t287 => (if t287 > x10 then (numeralref13_Nearest.l0 k x0 x1 x2 x3 x10 (wrap64 (x11 + 1))) else ((numeralref13_Shl.f k bt281.2 1).bind fun t288 => ((numeralref13_Cmp.f k t288 x13).bind fun t291 => (if (bt281.1.length : Int) > 0 then (if 0 < (bt281.1.length : Int) then (numeralref13_Nearest.j2 k x0 x1 x2 x3 x11 bt281.1 t291 ((Go.bits .and .u64 (rd bt281.1 0) 1) == 1)) else (none)) else (numeralref13_Nearest.j2 k x0 x1 x2 x3 x11 bt281.1 t291 false))))))
def numeralref13_Nearest.j2 : Nat → List Int → List Int → Int → Int → Int → List Int → Int → Bool → Option (Int × Bool × List Int × List Int)
 | 0, _, _, _, _, _, _, _, _ => none
 | k + 1, x0, x1, x2, x3, x11, x14, x16, x17 => if x16 > 0 then (numeralref13_Nearest.j3 k x0 x1 x2 x11 x14 true) else (if x16 = 0 then (if x3 > 0 then (numeralref13_Nearest.j3 k x0 x1 x2 x11 x14 true) else (if x3 = 0 then (numeralref13_Nearest.j3 k x0 x1 x2 x11 x14 x17) else (numeralref13_Nearest.j3 k x0 x1 x2 x11 x14 false))) else (numeralref13_Nearest.j3 k x0 x1 x2 x11 x14 false))
def numeralref13_Nearest.j3 : Nat → List Int → List Int → Int → Int → List Int → Bool → Option (Int × Bool × List Int × List Int)
 | 0, _, _, _, _, _, _ => none
 | k + 1, x0, x1, x2, x11, x14, x92 => if x92 = true then ((numeralref13_Add.f k x14 (([1] : List Int))).bind fun t296 => (numeralref13_Nearest.j4 k x0 x1 x2 x11 t296)) else (numeralref13_Nearest.j4 k x0 x1 x2 x11 x14)
def numeralref13_Nearest.j4 : Nat → List Int → List Int → Int → Int → List Int → Option (Int × Bool × List Int × List Int)
 | 0, _, _, _, _, _ => none
 | k + 1, x0, x1, x2, x11, x14 => numeralref13_Nearest.l1 k x0 x1 x2 x11 x14 0 (wrap64 ((x14.length : Int) - 1))
def numeralref13_Nearest.l1 : Nat → List Int → List Int → Int → Int → List Int → Int → Int → Option (Int × Bool × List Int × List Int)
 | 0, _, _, _, _, _, _, _ => none
 | k + 1, x0, x1, x2, x11, x14, x18, x19 => if x19 ≥ 0 then (if 0 ≤ x19 then (if x19 < (x14.length : Int) then (numeralref13_Nearest.l1 k x0 x1 x2 x11 x14 (Go.bits .or .u64 (IntKind.u64.wrap (x18 * 4294967296)) (rd x14 x19)) (wrap64 (x19 - 1))) else (none)) else (none)) else (if x18 = 0 then (some (0, false, x0, x1)) else ((numeralref11_Pack.f k false 2 x18 x11 x2).bind fun bt301 => (if bt301.2 = 0 then (some (bt301.1, false, x0, x1)) else ((numeralref11_Inf.f x2).bind fun t303 => (some (t303, true, x0, x1))))))
end
def numeralref13_Nearest.f (k : Nat) (l0 : List Int) (l1 : List Int) (a2 : Int) (a3 : Int) : Option (Int × Bool × List Int × List Int) := if (l0.length : Int) = 0 then (some (0, false, l0, l1)) else ((numeralref11_Frac.f a2).bind fun t271 => ((numeralref13_Bits.f k l0).bind fun t272 => ((numeralref13_Bits.f k l1).bind fun t273 => ((numeralref11_Low.f a2).bind fun t274 => (numeralref13_Nearest.l0 k l0 l1 a2 a3 (wrap64 (t271 + 1)) (mx (wrap64 ((wrap64 (t272 - t273)) - (wrap64 (t271 + 1)))) t274))))))
set_option maxHeartbeats 8000000 in
set_option maxRecDepth 100000 in
theorem numeralref13_Nearest.calls (k : Nat) (P0_ : Nat → Prop) (u9000_ : Value) (l0 : List Int) (P1_ : Nat → Prop) (u9001_ : Value) (l1 : List Int) (a2 : Int) (a3 : Int) (r1 : Int) (r2 : Bool) (r3 : List Int) (r4 : List Int) (w0 w : World) (hB : Below w0.heap.size w0 w) (ho0 : Kd.R (Kd.int .u64) 22 w w0.heap.size P0_ u9000_ l0) (hp0_1 : ∀ k_, P0_ k_ → ¬ P1_ k_) (ho1 : Kd.R (Kd.int .u64) 22 w w0.heap.size P1_ u9001_ l1) (hp1_0 : ∀ k_, P1_ k_ → ¬ P0_ k_) (h : numeralref13_Nearest.f k l0 l1 a2 a3 = some (r1, r2, r3, r4)) :
  Calls Tryd.prog 37 #[u9000_, u9001_, .int .i64 a2, .int .i64 a3] w fun e w' => e = .returned (.tuple #[.int .u64 r1, .bool r2]) ∧ Kd.R (Kd.int .u64) 22 w' w0.heap.size (fun k_ => ((P0_ k_ ∨ P1_ k_) ∨ w.heap.size ≤ k_)) u9000_ r3 ∧ Kd.R (Kd.int .u64) 22 w' w0.heap.size (fun k_ => ((P0_ k_ ∨ P1_ k_) ∨ w.heap.size ≤ k_)) u9001_ r4 ∧ Below w0.heap.size w0 w' ∧ Kept w w' (fun k_ => P0_ k_ ∨ P1_ k_) := by
 have hu46 := Tryd.underlying46
 have HO0 := Aside0.mk (show Kd.R (Kd.int .u64) 22 w w0.heap.size (fun k_ => ((P0_ k_ ∨ P1_ k_) ∨ w.heap.size ≤ k_) ∧ some k_ ≠ (u9001_ : Value).ownBlock) u9000_ l0 from Kd.R_mono ho0 (fun k_ hk => ⟨(.inl (.inl hk)), fun e_ => hp0_1 k_ hk (ho1.1 k_ e_.symm)⟩))
 have HO1 := Aside0.mk (show Kd.R (Kd.int .u64) 22 w w0.heap.size (fun k_ => ((P0_ k_ ∨ P1_ k_) ∨ w.heap.size ≤ k_) ∧ some k_ ≠ (u9000_ : Value).ownBlock) u9001_ l1 from Kd.R_mono ho1 (fun k_ hk => ⟨(.inl (.inr hk)), fun e_ => hp1_0 k_ hk (ho0.1 k_ e_.symm)⟩))
 have HK := Aside0.mk (Kept.refl w (fun k_ => P0_ k_ ∨ P1_ k_))
 have HW0 := Aside0.mk hB.size
 have HB := Aside0.mk hB
 clear hB
 have H : (if (l0.length : Int) = 0 then (some (0, false, l0, l1)) else ((numeralref11_Frac.f a2).bind fun t271 => ((numeralref13_Bits.f k l0).bind fun t272 => ((numeralref13_Bits.f k l1).bind fun t273 => ((numeralref11_Low.f a2).bind fun t274 => (numeralref13_Nearest.l0 k l0 l1 a2 a3 (wrap64 (t271 + 1)) (mx (wrap64 ((wrap64 (t272 - t273)) - (wrap64 (t271 + 1)))) t274))))))) = some (r1, r2, r3, r4) := h
 clear h
 by_cases c5 : (l0.length : Int) = 0
 ·rw [if_pos c5] at H
  have c5b0 : ((l0.length : Int) == 0) = true := beq_iff_eq.mpr c5
  have c5b1 : ((l0.length : Int) != 0) = false := bne_eq_false_iff_eq.mpr c5
  clear c5
  simp only [Option.some.injEq, Prod.mk.injEq] at H
  obtain ⟨rfl, rfl, rfl, rfl⟩ := H
  obtain ⟨Ao6, co6, eo6⟩ := Kd.R_slice HO0.out
  subst eo6
  go_enter Tryd.func37, Tryd.ntmps37
  go_wp2
  go_ret2
  exact ⟨by first | rfl | (simp [errW_none, errW_some] <;> rfl) | (simp [*, errW_none, errW_some] <;> rfl), by (with_reducible repeat (first | apply Kd.R_alloc | apply Kd.R_drewN | apply Kd.R_drew)); exact Kd.R_mono HO0.out (fun _ hk => hk.1), by (with_reducible repeat (first | apply Kd.R_alloc | apply Kd.R_drewN | apply Kd.R_drew)); exact Kd.R_mono HO1.out (fun _ hk => hk.1), by repeat (first | (with_reducible first | exact HB.out | apply below_alloc | apply pw_below_drewN | apply below_drew1) | exact HB.out), by repeat (first | (with_reducible first | exact HK.out | apply Kept.alloc | apply Kept.drewN | apply Kept.drew) | exact HK.out)⟩
 ·rw [if_neg c5] at H
  have c5b0 : ((l0.length : Int) == 0) = false := beq_eq_false_iff_ne.mpr c5
  have c5b1 : ((l0.length : Int) != 0) = true := bne_iff_ne.mpr c5
  have c5b2 : ¬ (l0 = []) := fun h_ => c5 (by rw [h_]; rfl)
  replace H := Option.bind_eq_some_iff.mp H
  obtain ⟨t271, A70, H⟩ := H
  replace H : ((numeralref13_Bits.f k l0).bind fun t272 => ((numeralref13_Bits.f k l1).bind fun t273 => ((numeralref11_Low.f a2).bind fun t274 => (numeralref13_Nearest.l0 k l0 l1 a2 a3 (wrap64 (t271 + 1)) (mx (wrap64 ((wrap64 (t272 - t273)) - (wrap64 (t271 + 1)))) t274))))) = some (r1, r2, r3, r4) := H
  have A7 := Aside0.mk A70
  clear A70
  replace H := Option.bind_eq_some_iff.mp H
  obtain ⟨t272, A80, H⟩ := H
  replace H : ((numeralref13_Bits.f k l1).bind fun t273 => ((numeralref11_Low.f a2).bind fun t274 => (numeralref13_Nearest.l0 k l0 l1 a2 a3 (wrap64 (t271 + 1)) (mx (wrap64 ((wrap64 (t272 - t273)) - (wrap64 (t271 + 1)))) t274)))) = some (r1, r2, r3, r4) := H
  have A8 := Aside0.mk A80
  clear A80
  replace H := Option.bind_eq_some_iff.mp H
  obtain ⟨t273, A90, H⟩ := H
  replace H : ((numeralref11_Low.f a2).bind fun t274 => (numeralref13_Nearest.l0 k l0 l1 a2 a3 (wrap64 (t271 + 1)) (mx (wrap64 ((wrap64 (t272 - t273)) - (wrap64 (t271 + 1)))) t274))) = some (r1, r2, r3, r4) := H
  have A9 := Aside0.mk A90
  clear A90
  replace H := Option.bind_eq_some_iff.mp H
  obtain ⟨t274, A100, H⟩ := H
  replace H : (numeralref13_Nearest.l0 k l0 l1 a2 a3 (wrap64 (t271 + 1)) (mx (wrap64 ((wrap64 (t272 - t273)) - (wrap64 (t271 + 1)))) t274)) = some (r1, r2, r3, r4) := H
  have A10 := Aside0.mk A100
  clear A100
  obtain ⟨ji11, hji11⟩ : ∃ j_ : Int, (mx (wrap64 ((wrap64 (t272 - t273)) - (wrap64 (t271 + 1)))) t274) = j_ := ⟨_, rfl⟩
  replace H : (numeralref13_Nearest.l0 k l0 l1 a2 a3 (wrap64 (t271 + 1)) ji11) = some (r1, r2, r3, r4) := by first | (rw [hji11] at H; exact H) | (simp only [hji11] at H ⊢; exact H)
  (try rw [hji11] at A7)
  (try rw [hji11] at A8)
  (try rw [hji11] at A9)
  (try rw [hji11] at A10)
  have hji11_ : (if (wrap64 ((wrap64 (t272 - t273)) - (wrap64 (t271 + 1)))) < t274 then t274 else (wrap64 ((wrap64 (t272 - t273)) - (wrap64 (t271 + 1))))) = ji11 := hji11
  have H' := Aside0.mk H
  clear H
  obtain ⟨Ao12, co12, eo12⟩ := Kd.R_slice HO0.out
  subst eo12
  go_enter Tryd.func37, Tryd.ntmps37
  go_wp2_with (first | ((with_reducible refine gate_callee (f := 41) rfl ?_); refine goesL_ (some 27) rfl rfl Tryd.func41 (by kernel_rfl) rfl #[.int .i64 a2] rfl (by (try simp only [List.map_toArray, List.map_cons, List.map_nil]); first | done | rfl | (simp only [List.length_drop, List.length_take]; rfl)) ?_; (with_reducible refine (numeralref11_Frac.calls a2 t271 _ A7.out).mono ?_); rintro e w' ⟨rfl, ⟨nd, rfl⟩⟩; refine ⟨_, rfl, ?_⟩) | ((with_reducible refine gate_callee (f := 42) rfl ?_); refine goesL_ (some 30) rfl rfl Tryd.func42 (by kernel_rfl) rfl #[.slice Ao12 l0.length co12] rfl (by (try simp only [List.map_toArray, List.map_cons, List.map_nil]); first | done | rfl | (simp only [List.length_drop, List.length_take]; rfl)) ?_; (with_reducible refine (numeralref13_Bits.calls k _ _ l0 t272 _ ?side1 ?side2 A8.out).mono ?_); (case side1 => repeat (first | exact (Kd.R_reads' HO0.out).2.2 | (with_reducible refine Kd.C_alloc ?_ _) | (with_reducible refine Kd.C_drewN ?_ _) | (with_reducible refine Kd.C_drew ?_))); (case side2 => exact (Kd.R_reads' HO0.out).2.1); rintro e w' ⟨rfl, ⟨nd, rfl⟩⟩; refine ⟨_, rfl, ?_⟩; obtain ⟨Ao13, co13, eo13⟩ := Kd.R_slice HO1.out; subst eo13) | ((with_reducible refine gate_callee (f := 42) rfl ?_); refine goesL_ (some 32) rfl rfl Tryd.func42 (by kernel_rfl) rfl #[.slice Ao13 l1.length co13] rfl (by (try simp only [List.map_toArray, List.map_cons, List.map_nil]); first | done | rfl | (simp only [List.length_drop, List.length_take]; rfl)) ?_; (with_reducible refine (numeralref13_Bits.calls k _ _ l1 t273 _ ?side1 ?side2 A9.out).mono ?_); (case side1 => repeat (first | exact (Kd.R_reads' HO1.out).2.2 | (with_reducible refine Kd.C_alloc ?_ _) | (with_reducible refine Kd.C_drewN ?_ _) | (with_reducible refine Kd.C_drew ?_))); (case side2 => exact (Kd.R_reads' HO1.out).2.1); rintro e w' ⟨rfl, ⟨nd, rfl⟩⟩; refine ⟨_, rfl, ?_⟩) | ((with_reducible refine gate_callee (f := 43) rfl ?_); refine goesL_ (some 37) rfl rfl Tryd.func43 (by kernel_rfl) rfl #[.int .i64 a2] rfl (by (try simp only [List.map_toArray, List.map_cons, List.map_nil]); first | done | rfl | (simp only [List.length_drop, List.length_take]; rfl)) ?_; (with_reducible refine (numeralref11_Low.calls a2 t274 _ A10.out).mono ?_); rintro e w' ⟨rfl, ⟨nd, rfl⟩⟩; refine ⟨_, rfl, ?_⟩))
  go_loopg [11] k (fun kq v11 w' => ∃ (x11_1 : Int), v11 = .int .i64 x11_1 ∧ Aside0 (numeralref13_Nearest.l0 kq l0 l1 a2 a3 (wrap64 (t271 + 1)) x11_1 = some (r1, r2, r3, r4)) ∧ Aside0 (kq ≤ k) ∧ Aside0 (Kd.R (Kd.int .u64) 22 w' w0.heap.size (fun k_ => ((P0_ k_ ∨ P1_ k_) ∨ w.heap.size ≤ k_) ∧ some k_ ≠ ((.slice Ao13 l1.length co13) : Value).ownBlock) (.slice Ao12 l0.length co12) l0) ∧ Aside0 (Kd.R (Kd.int .u64) 22 w' w0.heap.size (fun k_ => ((P0_ k_ ∨ P1_ k_) ∨ w.heap.size ≤ k_) ∧ some k_ ≠ ((.slice Ao12 l0.length co12) : Value).ownBlock) (.slice Ao13 l1.length co13) l1) ∧ Aside0 (Kept w w' (fun k_ => P0_ k_ ∨ P1_ k_)) ∧ Aside0 (Below w0.heap.size w0 w'))
  case atStart => exact ⟨(ji11), (by first | rfl | (simp; done) | (simp only [← hji11] <;> (first | rfl | simp)) | (simp [*]; done)), H', ⟨Nat.le_refl _⟩, ⟨by (with_reducible repeat (first | apply Kd.R_alloc | apply Kd.R_drewN | apply Kd.R_drew)); exact HO0.out⟩, ⟨by (with_reducible repeat (first | apply Kd.R_alloc | apply Kd.R_drewN | apply Kd.R_drew)); exact HO1.out⟩, ⟨by repeat (first | (with_reducible first | exact HK.out | apply Kept.alloc | apply Kept.drewN | apply Kept.drew) | exact HK.out)⟩, ⟨by repeat (first | (with_reducible first | exact HB.out | apply below_alloc | apply pw_below_drewN | apply below_drew1) | exact HB.out)⟩⟩
  case round =>
   clear H'
   try clear p1
   try clear p2
   try clear c3
   try clear c4
   try clear c5
   try clear c5b0
   try clear c5b1
   try clear c5b2
   try clear p6
   obtain ⟨x11_1, rfl, HA, HK1, HO_0, HO_1, HK, HB⟩ := hrel
   cases gk with
   | zero => exact absurd HA.out (by simp [numeralref13_Nearest.l0])
   | succ k1 =>
    have H := HA.out
    clear HA
    simp only [numeralref13_Nearest.l0] at H
    have HC14 := Aside0.mk H
    clear H
    go_upto_if 42 with (fail)
    go_cut [12, 13] (fun v12 v13 wc => ∃ (kq : Nat) (x12_13 : List Int) (x13_13 : List Int), Aside0 (numeralref13_Nearest.j1 kq l0 l1 a2 a3 (wrap64 (t271 + 1)) x11_1 x12_13 x13_13 = some (r1, r2, r3, r4)) ∧ Aside0 (kq ≤ k1) ∧ Aside0 (Kd.R (Kd.int .u64) 22 wc w0.heap.size (fun k_ => ((P0_ k_ ∨ P1_ k_) ∨ w.heap.size ≤ k_) ∧ some k_ ≠ ((.slice Ao13 l1.length co13) : Value).ownBlock ∧ some k_ ≠ (v13 : Value).ownBlock) (.slice Ao12 l0.length co12) l0) ∧ Aside0 (Kd.R (Kd.int .u64) 22 wc w0.heap.size (fun k_ => ((P0_ k_ ∨ P1_ k_) ∨ w.heap.size ≤ k_) ∧ some k_ ≠ ((.slice Ao12 l0.length co12) : Value).ownBlock ∧ some k_ ≠ (v12 : Value).ownBlock) (.slice Ao13 l1.length co13) l1) ∧ Aside0 (Kd.R (Kd.int .u64) 22 wc w0.heap.size (fun k_ => ((P0_ k_ ∨ P1_ k_) ∨ w.heap.size ≤ k_) ∧ some k_ ≠ ((.slice Ao13 l1.length co13) : Value).ownBlock ∧ some k_ ≠ (v13 : Value).ownBlock) v12 x12_13) ∧ Aside0 (Kd.R (Kd.int .u64) 22 wc w0.heap.size (fun k_ => ((P0_ k_ ∨ P1_ k_) ∨ w.heap.size ≤ k_) ∧ some k_ ≠ ((.slice Ao12 l0.length co12) : Value).ownBlock ∧ some k_ ≠ (v12 : Value).ownBlock) v13 x13_13) ∧ Aside0 (Kept w wc (fun k_ => P0_ k_ ∨ P1_ k_)) ∧ Aside0 (Below w0.heap.size w0 wc))
    case first =>
     have H := HC14.out
     clear HC14
     by_cases c15 : x11_1 ≥ 0
     ·rw [if_pos c15] at H
      have c15b0 : decide (0 ≤ x11_1) = true := decide_eq_true c15
      clear c15
      (first | rw [c15b0] | (simp only [i64_w, i32_w]; rw [c15b0]) | skip)
      replace H := Option.bind_eq_some_iff.mp H
      obtain ⟨t275, A160, H⟩ := H
      replace H : (numeralref13_Nearest.j1 k1 l0 l1 a2 a3 (wrap64 (t271 + 1)) x11_1 l0 t275) = some (r1, r2, r3, r4) := H
      have A16 := Aside0.mk A160
      clear A160
      have H' := Aside0.mk H
      clear H
      go_wp2_with (first | ((with_reducible refine gate_callee (f := 38) rfl ?_); refine goesL_ (some 45) rfl rfl Tryd.func38 (by kernel_rfl) rfl #[.slice Ao13 l1.length co13, .int .i64 x11_1] rfl (by (try simp only [List.map_toArray, List.map_cons, List.map_nil]); first | done | rfl | (simp only [List.length_drop, List.length_take]; rfl)) ?_; (with_reducible refine (numeralref13_Shl.calls k1 _ _ l1 x11_1 t275 _ ?side1 ?side2 A16.out).mono ?_); (case side1 => repeat (first | exact (Kd.R_reads' HO_1.out).2.2 | (with_reducible refine Kd.C_alloc ?_ _) | (with_reducible refine Kd.C_drewN ?_ _) | (with_reducible refine Kd.C_drew ?_))); (case side2 => exact (Kd.R_reads' HO_1.out).2.1); rintro e w17 ⟨v276, rfl, ho0, hb⟩; refine ⟨_, rfl, ?_⟩; have n0_ := Aside0.mk (Kd.R_elder' (by (with_reducible repeat (first | apply Kd.R_alloc | apply Kd.R_drewN | apply Kd.R_drew)); exact HO_0.out) (Kd.R_base ho0) hb); have n1_ := Aside0.mk (Kd.R_elder' (by (with_reducible repeat (first | apply Kd.R_alloc | apply Kd.R_drewN | apply Kd.R_drew)); exact HO_1.out) (Kd.R_base ho0) hb); have n2_ := Aside0.mk (Kd.R_lower (Kd.R_new' (Kd.R_new' (Kd.R_newM (M := fun k_ => ((P0_ k_ ∨ P1_ k_) ∨ w.heap.size ≤ k_)) ho0 (by first | exact HK.out.1 | exact (show Kept w _ (fun k_ => P0_ k_ ∨ P1_ k_) from by repeat (first | (with_reducible first | exact HK.out | apply Kept.alloc | apply Kept.drewN | apply Kept.drew) | exact HK.out)).1) (fun k_ h_ => .inr h_)) (Kd.R_lt (by (with_reducible repeat (first | apply Kd.R_alloc | apply Kd.R_drewN | apply Kd.R_drew)); exact HO_0.out))) (Kd.R_lt (by (with_reducible repeat (first | apply Kd.R_alloc | apply Kd.R_drewN | apply Kd.R_drew)); exact HO_1.out))) (below_size (by repeat (first | (with_reducible first | exact HB.out | apply below_alloc | apply pw_below_drewN | apply below_drew1) | exact HB.out)))); have n3_ := Aside0.mk (Kept.below (S := (fun k_ => P0_ k_ ∨ P1_ k_)) (by repeat (first | (with_reducible first | exact HK.out | apply Kept.alloc | apply Kept.drewN | apply Kept.drew) | exact HK.out)) hb); have n4_ := Aside0.mk (below_step (by repeat (first | (with_reducible first | exact HB.out | apply below_alloc | apply pw_below_drewN | apply below_drew1) | exact HB.out)) hb); clear HO_0; clear HO_1; clear HK; clear HB; have HO_0 := n0_; have HO_1 := n1_; have HO277 := n2_; have HK := n3_; have HB := n4_; clear n0_ n1_ n2_ n3_ n4_; (try clear hb); (try clear hb2); (try clear hk); (try clear hi); (try clear ho0)))
      go_meet
      case rel => exact ⟨_, (l0), (t275), H', ⟨by have := HK1.out; first | omega | exact Nat.le_refl _⟩, ⟨by (with_reducible repeat (first | apply Kd.R_alloc | apply Kd.R_drewN | apply Kd.R_drew)); exact Kd.R_mono HO_0.out (fun _ hk => by first | exact ⟨hk.1.1, ⟨hk.1.2, hk.2⟩⟩ | ((repeat' apply And.intro) <;> first | exact hk.1.1.1.1 | exact hk.1.1.1.2 | exact hk.1.1.1 | exact hk.1.1.2 | exact hk.1.1 | exact hk.1.2 | exact hk.2 | exact hk.2.1 | exact hk.2.2 | exact hk.1 | exact hk))⟩, ⟨by (with_reducible repeat (first | apply Kd.R_alloc | apply Kd.R_drewN | apply Kd.R_drew)); exact Kd.R_mono HO_1.out (fun _ hk => by first | exact ⟨hk.1.1, ⟨hk.1.2, ⟨hk.1.2, hk.2⟩⟩⟩ | ((repeat' apply And.intro) <;> first | exact hk.1.1.1.1 | exact hk.1.1.1.2 | exact hk.1.1.1 | exact hk.1.1.2 | exact hk.1.1 | exact hk.1.2 | exact hk.2 | exact hk.2.1 | exact hk.2.2 | exact hk.1 | exact hk))⟩, ⟨by (with_reducible repeat (first | apply Kd.R_alloc | apply Kd.R_drewN | apply Kd.R_drew)); exact Kd.R_mono HO_0.out (fun _ hk => by first | exact ⟨hk.1.1, ⟨hk.1.2, hk.2⟩⟩ | ((repeat' apply And.intro) <;> first | exact hk.1.1.1.1 | exact hk.1.1.1.2 | exact hk.1.1.1 | exact hk.1.1.2 | exact hk.1.1 | exact hk.1.2 | exact hk.2 | exact hk.2.1 | exact hk.2.2 | exact hk.1 | exact hk))⟩, ⟨by (with_reducible repeat (first | apply Kd.R_alloc | apply Kd.R_drewN | apply Kd.R_drew)); exact Kd.R_mono HO277.out (fun _ hk => by first | exact ⟨hk.1.1.1, ⟨hk.1.2, ⟨hk.2, hk.1.2⟩⟩⟩ | ((repeat' apply And.intro) <;> first | exact hk.1.1.1.1 | exact hk.1.1.1.2 | exact hk.1.1.1 | exact hk.1.1.2 | exact hk.1.1 | exact hk.1.2 | exact hk.2 | exact hk.2.1 | exact hk.2.2 | exact hk.1 | exact hk))⟩, ⟨by repeat (first | (with_reducible first | exact HK.out | apply Kept.alloc | apply Kept.drewN | apply Kept.drew) | exact HK.out)⟩, ⟨by repeat (first | (with_reducible first | exact HB.out | apply below_alloc | apply pw_below_drewN | apply below_drew1) | exact HB.out)⟩⟩
     ·rw [if_neg c15] at H
      have c15b0 : decide (0 ≤ x11_1) = false := decide_eq_false c15
      clear c15
      (first | rw [c15b0] | (simp only [i64_w, i32_w]; rw [c15b0]) | skip)
      replace H := Option.bind_eq_some_iff.mp H
      obtain ⟨t278, A180, H⟩ := H
      replace H : (numeralref13_Nearest.j1 k1 l0 l1 a2 a3 (wrap64 (t271 + 1)) x11_1 t278 l1) = some (r1, r2, r3, r4) := H
      have A18 := Aside0.mk A180
      clear A180
      have H' := Aside0.mk H
      clear H
      go_wp2_with (first | ((with_reducible refine gate_callee (f := 38) rfl ?_); refine goesL_ (some 49) rfl rfl Tryd.func38 (by kernel_rfl) rfl #[.slice Ao12 l0.length co12, .int .i64 (wrap64 (-x11_1))] rfl (by (try simp only [List.map_toArray, List.map_cons, List.map_nil]); first | done | rfl | (simp only [List.length_drop, List.length_take]; rfl)) ?_; (with_reducible refine (numeralref13_Shl.calls k1 _ _ l0 (wrap64 (-x11_1)) t278 _ ?side1 ?side2 A18.out).mono ?_); (case side1 => repeat (first | exact (Kd.R_reads' HO_0.out).2.2 | (with_reducible refine Kd.C_alloc ?_ _) | (with_reducible refine Kd.C_drewN ?_ _) | (with_reducible refine Kd.C_drew ?_))); (case side2 => exact (Kd.R_reads' HO_0.out).2.1); rintro e w19 ⟨v279, rfl, ho0, hb⟩; refine ⟨_, rfl, ?_⟩; have n0_ := Aside0.mk (Kd.R_elder' (by (with_reducible repeat (first | apply Kd.R_alloc | apply Kd.R_drewN | apply Kd.R_drew)); exact HO_0.out) (Kd.R_base ho0) hb); have n1_ := Aside0.mk (Kd.R_elder' (by (with_reducible repeat (first | apply Kd.R_alloc | apply Kd.R_drewN | apply Kd.R_drew)); exact HO_1.out) (Kd.R_base ho0) hb); have n2_ := Aside0.mk (Kd.R_lower (Kd.R_new' (Kd.R_new' (Kd.R_newM (M := fun k_ => ((P0_ k_ ∨ P1_ k_) ∨ w.heap.size ≤ k_)) ho0 (by first | exact HK.out.1 | exact (show Kept w _ (fun k_ => P0_ k_ ∨ P1_ k_) from by repeat (first | (with_reducible first | exact HK.out | apply Kept.alloc | apply Kept.drewN | apply Kept.drew) | exact HK.out)).1) (fun k_ h_ => .inr h_)) (Kd.R_lt (by (with_reducible repeat (first | apply Kd.R_alloc | apply Kd.R_drewN | apply Kd.R_drew)); exact HO_0.out))) (Kd.R_lt (by (with_reducible repeat (first | apply Kd.R_alloc | apply Kd.R_drewN | apply Kd.R_drew)); exact HO_1.out))) (below_size (by repeat (first | (with_reducible first | exact HB.out | apply below_alloc | apply pw_below_drewN | apply below_drew1) | exact HB.out)))); have n3_ := Aside0.mk (Kept.below (S := (fun k_ => P0_ k_ ∨ P1_ k_)) (by repeat (first | (with_reducible first | exact HK.out | apply Kept.alloc | apply Kept.drewN | apply Kept.drew) | exact HK.out)) hb); have n4_ := Aside0.mk (below_step (by repeat (first | (with_reducible first | exact HB.out | apply below_alloc | apply pw_below_drewN | apply below_drew1) | exact HB.out)) hb); clear HO_0; clear HO_1; clear HK; clear HB; have HO_0 := n0_; have HO_1 := n1_; have HO280 := n2_; have HK := n3_; have HB := n4_; clear n0_ n1_ n2_ n3_ n4_; (try clear hb); (try clear hb2); (try clear hk); (try clear hi); (try clear ho0)))
      go_meet
      case rel => exact ⟨_, (t278), (l1), H', ⟨by have := HK1.out; first | omega | exact Nat.le_refl _⟩, ⟨by (with_reducible repeat (first | apply Kd.R_alloc | apply Kd.R_drewN | apply Kd.R_drew)); exact Kd.R_mono HO_0.out (fun _ hk => by first | exact ⟨hk.1.1, ⟨hk.1.2, ⟨hk.2, hk.1.2⟩⟩⟩ | ((repeat' apply And.intro) <;> first | exact hk.1.1.1.1 | exact hk.1.1.1.2 | exact hk.1.1.1 | exact hk.1.1.2 | exact hk.1.1 | exact hk.1.2 | exact hk.2 | exact hk.2.1 | exact hk.2.2 | exact hk.1 | exact hk))⟩, ⟨by (with_reducible repeat (first | apply Kd.R_alloc | apply Kd.R_drewN | apply Kd.R_drew)); exact Kd.R_mono HO_1.out (fun _ hk => by first | exact ⟨hk.1.1, ⟨hk.1.2, hk.2⟩⟩ | ((repeat' apply And.intro) <;> first | exact hk.1.1.1.1 | exact hk.1.1.1.2 | exact hk.1.1.1 | exact hk.1.1.2 | exact hk.1.1 | exact hk.1.2 | exact hk.2 | exact hk.2.1 | exact hk.2.2 | exact hk.1 | exact hk))⟩, ⟨by (with_reducible repeat (first | apply Kd.R_alloc | apply Kd.R_drewN | apply Kd.R_drew)); exact Kd.R_mono HO280.out (fun _ hk => by first | exact ⟨hk.1.1.1, ⟨hk.1.2, ⟨hk.2, hk.2⟩⟩⟩ | ((repeat' apply And.intro) <;> first | exact hk.1.1.1.1 | exact hk.1.1.1.2 | exact hk.1.1.1 | exact hk.1.1.2 | exact hk.1.1 | exact hk.1.2 | exact hk.2 | exact hk.2.1 | exact hk.2.2 | exact hk.1 | exact hk))⟩, ⟨by (with_reducible repeat (first | apply Kd.R_alloc | apply Kd.R_drewN | apply Kd.R_drew)); exact Kd.R_mono HO_1.out (fun _ hk => by first | exact ⟨hk.1.1, ⟨hk.1.2, hk.2⟩⟩ | ((repeat' apply And.intro) <;> first | exact hk.1.1.1.1 | exact hk.1.1.1.2 | exact hk.1.1.1 | exact hk.1.1.2 | exact hk.1.1 | exact hk.1.2 | exact hk.2 | exact hk.2.1 | exact hk.2.2 | exact hk.1 | exact hk))⟩, ⟨by repeat (first | (with_reducible first | exact HK.out | apply Kept.alloc | apply Kept.drewN | apply Kept.drew) | exact HK.out)⟩, ⟨by repeat (first | (with_reducible first | exact HB.out | apply below_alloc | apply pw_below_drewN | apply below_drew1) | exact HB.out)⟩⟩
    case rest =>
     clear HC14
     try clear c1
     try clear p1
     try clear p2
     try clear c3
     try clear c4
     try clear c5
     try clear c5b0
     try clear c5b1
     try clear c5b2
     try clear p6
     try clear c15
     try clear c15b0
     try clear p1
     try clear p2
     try clear p6
     obtain ⟨kq, x12_13, x13_13, HA, HJ13, HO_0, HO_1, HO_12, HO_13, HK, HB⟩ := hcut
     cases kq with
     | zero => exact absurd HA.out (by simp [numeralref13_Nearest.j1])
     | succ kj13 =>
      have H := HA.out
      clear HA
      simp only [numeralref13_Nearest.j1] at H
      replace H := Option.bind_eq_some_iff.mp H
      obtain ⟨⟨t281, t282⟩, A200, H⟩ := H
      replace H : ((numeralref13_Bits.f kj13 t281).bind fun t287 => (if t287 > (wrap64 (t271 + 1)) then (numeralref13_Nearest.l0 kj13 l0 l1 a2 a3 (wrap64 (t271 + 1)) (wrap64 (x11_1 + 1))) else ((numeralref13_Shl.f kj13 t282 1).bind fun t288 => ((numeralref13_Cmp.f kj13 t288 x13_13).bind fun t291 => (if (t281.length : Int) > 0 then (if 0 < (t281.length : Int) then (numeralref13_Nearest.j2 kj13 l0 l1 a2 a3 x11_1 t281 t291 ((Go.bits .and .u64 (rd t281 0) 1) == 1)) else (none)) else (numeralref13_Nearest.j2 kj13 l0 l1 a2 a3 x11_1 t281 t291 false)))))) = some (r1, r2, r3, r4) := H
      have A20 := Aside0.mk A200
      clear A200
      replace H := Option.bind_eq_some_iff.mp H
      obtain ⟨t287, A210, H⟩ := H
      replace H : (if t287 > (wrap64 (t271 + 1)) then (numeralref13_Nearest.l0 kj13 l0 l1 a2 a3 (wrap64 (t271 + 1)) (wrap64 (x11_1 + 1))) else ((numeralref13_Shl.f kj13 t282 1).bind fun t288 => ((numeralref13_Cmp.f kj13 t288 x13_13).bind fun t291 => (if (t281.length : Int) > 0 then (if 0 < (t281.length : Int) then (numeralref13_Nearest.j2 kj13 l0 l1 a2 a3 x11_1 t281 t291 ((Go.bits .and .u64 (rd t281 0) 1) == 1)) else (none)) else (numeralref13_Nearest.j2 kj13 l0 l1 a2 a3 x11_1 t281 t291 false))))) = some (r1, r2, r3, r4) := H
      have A21 := Aside0.mk A210
      clear A210
      by_cases c22 : t287 > (wrap64 (t271 + 1))
      ·rw [if_pos c22] at H
       have c22b0 : decide ((wrap64 (t271 + 1)) < t287) = true := decide_eq_true c22
       clear c22
       have H' := Aside0.mk H
       clear H
       obtain ⟨Ao23, co23, eo23⟩ := Kd.R_slice HO_12.out
       subst eo23
       obtain ⟨Ao24, co24, eo24⟩ := Kd.R_slice HO_13.out
       subst eo24
       go_wp2_with (first | ((with_reducible refine gate_callee (f := 44) rfl ?_); refine goesL_ (some 53) rfl rfl Tryd.func44 (by kernel_rfl) rfl #[.slice Ao23 x12_13.length co23, .slice Ao24 x13_13.length co24] rfl (by (try simp only [List.map_toArray, List.map_cons, List.map_nil]); first | done | rfl | (simp only [List.length_drop, List.length_take]; rfl)) ?_; (with_reducible refine (numeralref13_Div.calls kj13 _ _ x12_13 _ _ x13_13 t281 t282 _ ?side1 ?side2 ?side3 ?side4 A20.out).mono ?_); (case side1 => repeat (first | exact (Kd.R_reads' HO_12.out).2.2 | (with_reducible refine Kd.C_alloc ?_ _) | (with_reducible refine Kd.C_drewN ?_ _) | (with_reducible refine Kd.C_drew ?_))); (case side2 => exact (Kd.R_reads' HO_12.out).2.1); (case side3 => repeat (first | exact (Kd.R_reads' HO_13.out).2.2 | (with_reducible refine Kd.C_alloc ?_ _) | (with_reducible refine Kd.C_drewN ?_ _) | (with_reducible refine Kd.C_drew ?_))); (case side4 => exact (Kd.R_reads' HO_13.out).2.1); rintro e w25 ⟨v283, v285, rfl, ho0, ho1, hb⟩; refine ⟨_, rfl, ?_⟩; have n0_ := Aside0.mk (Kd.R_mono (Kd.R_told (Kd.R_told (Kd.R_old (by (with_reducible repeat (first | apply Kd.R_alloc | apply Kd.R_drewN | apply Kd.R_drew)); exact HO_0.out) hb) (Kd.R_base ho0)) (Kd.R_base ho1)) (fun _ h_ => h_.1)); have n1_ := Aside0.mk (Kd.R_mono (Kd.R_told (Kd.R_told (Kd.R_old (by (with_reducible repeat (first | apply Kd.R_alloc | apply Kd.R_drewN | apply Kd.R_drew)); exact HO_1.out) hb) (Kd.R_base ho0)) (Kd.R_base ho1)) (fun _ h_ => h_.1)); have n2_ := Aside0.mk (Kd.R_mono (Kd.R_told (Kd.R_told (Kd.R_old (by (with_reducible repeat (first | apply Kd.R_alloc | apply Kd.R_drewN | apply Kd.R_drew)); exact HO_12.out) hb) (Kd.R_base ho0)) (Kd.R_base ho1)) (fun _ h_ => h_.1)); have n3_ := Aside0.mk (Kd.R_mono (Kd.R_told (Kd.R_told (Kd.R_old (by (with_reducible repeat (first | apply Kd.R_alloc | apply Kd.R_drewN | apply Kd.R_drew)); exact HO_13.out) hb) (Kd.R_base ho0)) (Kd.R_base ho1)) (fun _ h_ => h_.1)); have n4_ := Aside0.mk (Kd.R_lower (Kd.R_new' (Kd.R_new' (Kd.R_new' (Kd.R_new' (Kd.R_newM (M := fun k_ => ((P0_ k_ ∨ P1_ k_) ∨ w.heap.size ≤ k_)) ho0 (by first | exact HK.out.1 | exact (show Kept w _ (fun k_ => P0_ k_ ∨ P1_ k_) from by repeat (first | (with_reducible first | exact HK.out | apply Kept.alloc | apply Kept.drewN | apply Kept.drew) | exact HK.out)).1) (fun k_ h_ => .inr h_)) (Kd.R_lt (by (with_reducible repeat (first | apply Kd.R_alloc | apply Kd.R_drewN | apply Kd.R_drew)); exact HO_0.out))) (Kd.R_lt (by (with_reducible repeat (first | apply Kd.R_alloc | apply Kd.R_drewN | apply Kd.R_drew)); exact HO_1.out))) (Kd.R_lt (by (with_reducible repeat (first | apply Kd.R_alloc | apply Kd.R_drewN | apply Kd.R_drew)); exact HO_12.out))) (Kd.R_lt (by (with_reducible repeat (first | apply Kd.R_alloc | apply Kd.R_drewN | apply Kd.R_drew)); exact HO_13.out))) (below_size (by repeat (first | (with_reducible first | exact HB.out | apply below_alloc | apply pw_below_drewN | apply below_drew1) | exact HB.out)))); have n5_ := Aside0.mk (Kd.R_lower (Kd.R_new' (Kd.R_new' (Kd.R_new' (Kd.R_new' (Kd.R_newM (M := fun k_ => ((P0_ k_ ∨ P1_ k_) ∨ w.heap.size ≤ k_)) ho1 (by first | exact HK.out.1 | exact (show Kept w _ (fun k_ => P0_ k_ ∨ P1_ k_) from by repeat (first | (with_reducible first | exact HK.out | apply Kept.alloc | apply Kept.drewN | apply Kept.drew) | exact HK.out)).1) (fun k_ h_ => .inr h_)) (Kd.R_lt (by (with_reducible repeat (first | apply Kd.R_alloc | apply Kd.R_drewN | apply Kd.R_drew)); exact HO_0.out))) (Kd.R_lt (by (with_reducible repeat (first | apply Kd.R_alloc | apply Kd.R_drewN | apply Kd.R_drew)); exact HO_1.out))) (Kd.R_lt (by (with_reducible repeat (first | apply Kd.R_alloc | apply Kd.R_drewN | apply Kd.R_drew)); exact HO_12.out))) (Kd.R_lt (by (with_reducible repeat (first | apply Kd.R_alloc | apply Kd.R_drewN | apply Kd.R_drew)); exact HO_13.out))) (below_size (by repeat (first | (with_reducible first | exact HB.out | apply below_alloc | apply pw_below_drewN | apply below_drew1) | exact HB.out)))); have n6_ := Aside0.mk (Kept.below (S := (fun k_ => P0_ k_ ∨ P1_ k_)) (by repeat (first | (with_reducible first | exact HK.out | apply Kept.alloc | apply Kept.drewN | apply Kept.drew) | exact HK.out)) hb); have n7_ := Aside0.mk (below_step (by repeat (first | (with_reducible first | exact HB.out | apply below_alloc | apply pw_below_drewN | apply below_drew1) | exact HB.out)) hb); clear HO_0; clear HO_1; clear HO_12; clear HO_13; clear HK; clear HB; have HO_0 := n0_; have HO_1 := n1_; have HO_12 := n2_; have HO_13 := n3_; have HO284 := n4_; have HO286 := n5_; have HK := n6_; have HB := n7_; clear n0_ n1_ n2_ n3_ n4_ n5_ n6_ n7_; (try clear hb); (try clear hb2); (try clear hk); (try clear hi); (try clear ho0); (try clear ho1); obtain ⟨Ao26, co26, eo26⟩ := Kd.R_slice HO284.out; subst eo26) | ((with_reducible refine gate_callee (f := 42) rfl ?_); refine goesL_ (some 57) rfl rfl Tryd.func42 (by kernel_rfl) rfl #[.slice Ao26 t281.length co26] rfl (by (try simp only [List.map_toArray, List.map_cons, List.map_nil]); first | done | rfl | (simp only [List.length_drop, List.length_take]; rfl)) ?_; (with_reducible refine (numeralref13_Bits.calls kj13 _ _ t281 t287 _ ?side1 ?side2 A21.out).mono ?_); (case side1 => repeat (first | exact (Kd.R_reads' HO284.out).2.2 | (with_reducible refine Kd.C_alloc ?_ _) | (with_reducible refine Kd.C_drewN ?_ _) | (with_reducible refine Kd.C_drew ?_))); (case side2 => exact (Kd.R_reads' HO284.out).2.1); rintro e w' ⟨rfl, ⟨nd, rfl⟩⟩; refine ⟨_, rfl, ?_⟩))
       go_roundg kj13
       case measure => have := HK1.out; have := HJ13.out; omega
       case rel => exact ⟨(wrap64 (x11_1 + 1)), (by first | rfl | (simp; done) | (simp [*]; done)), H', ⟨by have := HK1.out; have := HJ13.out; omega⟩, ⟨by (with_reducible repeat (first | apply Kd.R_alloc | apply Kd.R_drewN | apply Kd.R_drew)); exact Kd.R_mono HO_0.out (fun _ hk => ⟨hk.1.1.1, hk.1.1.2.1⟩)⟩, ⟨by (with_reducible repeat (first | apply Kd.R_alloc | apply Kd.R_drewN | apply Kd.R_drew)); exact Kd.R_mono HO_1.out (fun _ hk => ⟨hk.1.1.1, hk.1.1.2.1⟩)⟩, ⟨by repeat (first | (with_reducible first | exact HK.out | apply Kept.alloc | apply Kept.drewN | apply Kept.drew) | exact HK.out)⟩, ⟨by repeat (first | (with_reducible first | exact HB.out | apply below_alloc | apply pw_below_drewN | apply below_drew1) | exact HB.out)⟩⟩
      ·rw [if_neg c22] at H
       have c22b0 : decide ((wrap64 (t271 + 1)) < t287) = false := decide_eq_false c22
       clear c22
       replace H := Option.bind_eq_some_iff.mp H
       obtain ⟨t288, A270, H⟩ := H
       replace H : ((numeralref13_Cmp.f kj13 t288 x13_13).bind fun t291 => (if (t281.length : Int) > 0 then (if 0 < (t281.length : Int) then (numeralref13_Nearest.j2 kj13 l0 l1 a2 a3 x11_1 t281 t291 ((Go.bits .and .u64 (rd t281 0) 1) == 1)) else (none)) else (numeralref13_Nearest.j2 kj13 l0 l1 a2 a3 x11_1 t281 t291 false))) = some (r1, r2, r3, r4) := H
       have A27 := Aside0.mk A270
       clear A270
       replace H := Option.bind_eq_some_iff.mp H
       obtain ⟨t291, A280, H⟩ := H
       replace H : (if (t281.length : Int) > 0 then (if 0 < (t281.length : Int) then (numeralref13_Nearest.j2 kj13 l0 l1 a2 a3 x11_1 t281 t291 ((Go.bits .and .u64 (rd t281 0) 1) == 1)) else (none)) else (numeralref13_Nearest.j2 kj13 l0 l1 a2 a3 x11_1 t281 t291 false)) = some (r1, r2, r3, r4) := H
       have A28 := Aside0.mk A280
       clear A280
       have HC29 := Aside0.mk H
       clear H
       obtain ⟨Ao30, co30, eo30⟩ := Kd.R_slice HO_12.out
       subst eo30
       obtain ⟨Ao31, co31, eo31⟩ := Kd.R_slice HO_13.out
       subst eo31
       go_upto_region 13 with (first | ((with_reducible refine gate_callee (f := 44) rfl ?_); refine goesL_ (some 53) rfl rfl Tryd.func44 (by kernel_rfl) rfl #[.slice Ao30 x12_13.length co30, .slice Ao31 x13_13.length co31] rfl (by (try simp only [List.map_toArray, List.map_cons, List.map_nil]); first | done | rfl | (simp only [List.length_drop, List.length_take]; rfl)) ?_; (with_reducible refine (numeralref13_Div.calls kj13 _ _ x12_13 _ _ x13_13 t281 t282 _ ?side1 ?side2 ?side3 ?side4 A20.out).mono ?_); (case side1 => repeat (first | exact (Kd.R_reads' HO_12.out).2.2 | (with_reducible refine Kd.C_alloc ?_ _) | (with_reducible refine Kd.C_drewN ?_ _) | (with_reducible refine Kd.C_drew ?_))); (case side2 => exact (Kd.R_reads' HO_12.out).2.1); (case side3 => repeat (first | exact (Kd.R_reads' HO_13.out).2.2 | (with_reducible refine Kd.C_alloc ?_ _) | (with_reducible refine Kd.C_drewN ?_ _) | (with_reducible refine Kd.C_drew ?_))); (case side4 => exact (Kd.R_reads' HO_13.out).2.1); rintro e w32 ⟨v283, v285, rfl, ho0, ho1, hb⟩; refine ⟨_, rfl, ?_⟩; have n0_ := Aside0.mk (Kd.R_mono (Kd.R_told (Kd.R_told (Kd.R_old (by (with_reducible repeat (first | apply Kd.R_alloc | apply Kd.R_drewN | apply Kd.R_drew)); exact HO_0.out) hb) (Kd.R_base ho0)) (Kd.R_base ho1)) (fun _ h_ => h_.1)); have n1_ := Aside0.mk (Kd.R_mono (Kd.R_told (Kd.R_told (Kd.R_old (by (with_reducible repeat (first | apply Kd.R_alloc | apply Kd.R_drewN | apply Kd.R_drew)); exact HO_1.out) hb) (Kd.R_base ho0)) (Kd.R_base ho1)) (fun _ h_ => h_.1)); have n2_ := Aside0.mk (Kd.R_mono (Kd.R_told (Kd.R_told (Kd.R_old (by (with_reducible repeat (first | apply Kd.R_alloc | apply Kd.R_drewN | apply Kd.R_drew)); exact HO_12.out) hb) (Kd.R_base ho0)) (Kd.R_base ho1)) (fun _ h_ => h_.1)); have n3_ := Aside0.mk (Kd.R_mono (Kd.R_told (Kd.R_told (Kd.R_old (by (with_reducible repeat (first | apply Kd.R_alloc | apply Kd.R_drewN | apply Kd.R_drew)); exact HO_13.out) hb) (Kd.R_base ho0)) (Kd.R_base ho1)) (fun _ h_ => h_.1)); have n4_ := Aside0.mk (Kd.R_lower (Kd.R_new' (Kd.R_new' (Kd.R_new' (Kd.R_new' (Kd.R_newM (M := fun k_ => ((P0_ k_ ∨ P1_ k_) ∨ w.heap.size ≤ k_)) ho0 (by first | exact HK.out.1 | exact (show Kept w _ (fun k_ => P0_ k_ ∨ P1_ k_) from by repeat (first | (with_reducible first | exact HK.out | apply Kept.alloc | apply Kept.drewN | apply Kept.drew) | exact HK.out)).1) (fun k_ h_ => .inr h_)) (Kd.R_lt (by (with_reducible repeat (first | apply Kd.R_alloc | apply Kd.R_drewN | apply Kd.R_drew)); exact HO_0.out))) (Kd.R_lt (by (with_reducible repeat (first | apply Kd.R_alloc | apply Kd.R_drewN | apply Kd.R_drew)); exact HO_1.out))) (Kd.R_lt (by (with_reducible repeat (first | apply Kd.R_alloc | apply Kd.R_drewN | apply Kd.R_drew)); exact HO_12.out))) (Kd.R_lt (by (with_reducible repeat (first | apply Kd.R_alloc | apply Kd.R_drewN | apply Kd.R_drew)); exact HO_13.out))) (below_size (by repeat (first | (with_reducible first | exact HB.out | apply below_alloc | apply pw_below_drewN | apply below_drew1) | exact HB.out)))); have n5_ := Aside0.mk (Kd.R_lower (Kd.R_new' (Kd.R_new' (Kd.R_new' (Kd.R_new' (Kd.R_newM (M := fun k_ => ((P0_ k_ ∨ P1_ k_) ∨ w.heap.size ≤ k_)) ho1 (by first | exact HK.out.1 | exact (show Kept w _ (fun k_ => P0_ k_ ∨ P1_ k_) from by repeat (first | (with_reducible first | exact HK.out | apply Kept.alloc | apply Kept.drewN | apply Kept.drew) | exact HK.out)).1) (fun k_ h_ => .inr h_)) (Kd.R_lt (by (with_reducible repeat (first | apply Kd.R_alloc | apply Kd.R_drewN | apply Kd.R_drew)); exact HO_0.out))) (Kd.R_lt (by (with_reducible repeat (first | apply Kd.R_alloc | apply Kd.R_drewN | apply Kd.R_drew)); exact HO_1.out))) (Kd.R_lt (by (with_reducible repeat (first | apply Kd.R_alloc | apply Kd.R_drewN | apply Kd.R_drew)); exact HO_12.out))) (Kd.R_lt (by (with_reducible repeat (first | apply Kd.R_alloc | apply Kd.R_drewN | apply Kd.R_drew)); exact HO_13.out))) (below_size (by repeat (first | (with_reducible first | exact HB.out | apply below_alloc | apply pw_below_drewN | apply below_drew1) | exact HB.out)))); have n6_ := Aside0.mk (Kept.below (S := (fun k_ => P0_ k_ ∨ P1_ k_)) (by repeat (first | (with_reducible first | exact HK.out | apply Kept.alloc | apply Kept.drewN | apply Kept.drew) | exact HK.out)) hb); have n7_ := Aside0.mk (below_step (by repeat (first | (with_reducible first | exact HB.out | apply below_alloc | apply pw_below_drewN | apply below_drew1) | exact HB.out)) hb); clear HO_0; clear HO_1; clear HO_12; clear HO_13; clear HK; clear HB; have HO_0 := n0_; have HO_1 := n1_; have HO_12 := n2_; have HO_13 := n3_; have HO284 := n4_; have HO286 := n5_; have HK := n6_; have HB := n7_; clear n0_ n1_ n2_ n3_ n4_ n5_ n6_ n7_; (try clear hb); (try clear hb2); (try clear hk); (try clear hi); (try clear ho0); (try clear ho1); obtain ⟨Ao33, co33, eo33⟩ := Kd.R_slice HO284.out; subst eo33) | ((with_reducible refine gate_callee (f := 42) rfl ?_); refine goesL_ (some 57) rfl rfl Tryd.func42 (by kernel_rfl) rfl #[.slice Ao33 t281.length co33] rfl (by (try simp only [List.map_toArray, List.map_cons, List.map_nil]); first | done | rfl | (simp only [List.length_drop, List.length_take]; rfl)) ?_; (with_reducible refine (numeralref13_Bits.calls kj13 _ _ t281 t287 _ ?side1 ?side2 A21.out).mono ?_); (case side1 => repeat (first | exact (Kd.R_reads' HO284.out).2.2 | (with_reducible refine Kd.C_alloc ?_ _) | (with_reducible refine Kd.C_drewN ?_ _) | (with_reducible refine Kd.C_drew ?_))); (case side2 => exact (Kd.R_reads' HO284.out).2.1); rintro e w' ⟨rfl, ⟨nd, rfl⟩⟩; refine ⟨_, rfl, ?_⟩; obtain ⟨Ao34, co34, eo34⟩ := Kd.R_slice HO286.out; subst eo34) | ((with_reducible refine gate_callee (f := 38) rfl ?_); refine goesL_ (some 63) rfl rfl Tryd.func38 (by kernel_rfl) rfl #[.slice Ao34 t282.length co34, .int .i64 1] rfl (by (try simp only [List.map_toArray, List.map_cons, List.map_nil]); first | done | rfl | (simp only [List.length_drop, List.length_take]; rfl)) ?_; (with_reducible refine (numeralref13_Shl.calls kj13 _ _ t282 1 t288 _ ?side1 ?side2 A27.out).mono ?_); (case side1 => repeat (first | exact (Kd.R_reads' HO286.out).2.2 | (with_reducible refine Kd.C_alloc ?_ _) | (with_reducible refine Kd.C_drewN ?_ _) | (with_reducible refine Kd.C_drew ?_))); (case side2 => exact (Kd.R_reads' HO286.out).2.1); rintro e w35 ⟨v289, rfl, ho0, hb⟩; refine ⟨_, rfl, ?_⟩; have n0_ := Aside0.mk (Kd.R_elder' (by (with_reducible repeat (first | apply Kd.R_alloc | apply Kd.R_drewN | apply Kd.R_drew)); exact HO_0.out) (Kd.R_base ho0) hb); have n1_ := Aside0.mk (Kd.R_elder' (by (with_reducible repeat (first | apply Kd.R_alloc | apply Kd.R_drewN | apply Kd.R_drew)); exact HO_1.out) (Kd.R_base ho0) hb); have n2_ := Aside0.mk (Kd.R_elder' (by (with_reducible repeat (first | apply Kd.R_alloc | apply Kd.R_drewN | apply Kd.R_drew)); exact HO_12.out) (Kd.R_base ho0) hb); have n3_ := Aside0.mk (Kd.R_elder' (by (with_reducible repeat (first | apply Kd.R_alloc | apply Kd.R_drewN | apply Kd.R_drew)); exact HO_13.out) (Kd.R_base ho0) hb); have n4_ := Aside0.mk (Kd.R_elder' (by (with_reducible repeat (first | apply Kd.R_alloc | apply Kd.R_drewN | apply Kd.R_drew)); exact HO284.out) (Kd.R_base ho0) hb); have n5_ := Aside0.mk (Kd.R_elder' (by (with_reducible repeat (first | apply Kd.R_alloc | apply Kd.R_drewN | apply Kd.R_drew)); exact HO286.out) (Kd.R_base ho0) hb); have n6_ := Aside0.mk (Kd.R_lower (Kd.R_new' (Kd.R_new' (Kd.R_new' (Kd.R_new' (Kd.R_new' (Kd.R_new' (Kd.R_newM (M := fun k_ => ((P0_ k_ ∨ P1_ k_) ∨ w.heap.size ≤ k_)) ho0 (by first | exact HK.out.1 | exact (show Kept w _ (fun k_ => P0_ k_ ∨ P1_ k_) from by repeat (first | (with_reducible first | exact HK.out | apply Kept.alloc | apply Kept.drewN | apply Kept.drew) | exact HK.out)).1) (fun k_ h_ => .inr h_)) (Kd.R_lt (by (with_reducible repeat (first | apply Kd.R_alloc | apply Kd.R_drewN | apply Kd.R_drew)); exact HO_0.out))) (Kd.R_lt (by (with_reducible repeat (first | apply Kd.R_alloc | apply Kd.R_drewN | apply Kd.R_drew)); exact HO_1.out))) (Kd.R_lt (by (with_reducible repeat (first | apply Kd.R_alloc | apply Kd.R_drewN | apply Kd.R_drew)); exact HO_12.out))) (Kd.R_lt (by (with_reducible repeat (first | apply Kd.R_alloc | apply Kd.R_drewN | apply Kd.R_drew)); exact HO_13.out))) (Kd.R_lt (by (with_reducible repeat (first | apply Kd.R_alloc | apply Kd.R_drewN | apply Kd.R_drew)); exact HO284.out))) (Kd.R_lt (by (with_reducible repeat (first | apply Kd.R_alloc | apply Kd.R_drewN | apply Kd.R_drew)); exact HO286.out))) (below_size (by repeat (first | (with_reducible first | exact HB.out | apply below_alloc | apply pw_below_drewN | apply below_drew1) | exact HB.out)))); have n7_ := Aside0.mk (Kept.below (S := (fun k_ => P0_ k_ ∨ P1_ k_)) (by repeat (first | (with_reducible first | exact HK.out | apply Kept.alloc | apply Kept.drewN | apply Kept.drew) | exact HK.out)) hb); have n8_ := Aside0.mk (below_step (by repeat (first | (with_reducible first | exact HB.out | apply below_alloc | apply pw_below_drewN | apply below_drew1) | exact HB.out)) hb); clear HO_0; clear HO_1; clear HO_12; clear HO_13; clear HO284; clear HO286; clear HK; clear HB; have HO_0 := n0_; have HO_1 := n1_; have HO_12 := n2_; have HO_13 := n3_; have HO284 := n4_; have HO286 := n5_; have HO290 := n6_; have HK := n7_; have HB := n8_; clear n0_ n1_ n2_ n3_ n4_ n5_ n6_ n7_ n8_; (try clear hb); (try clear hb2); (try clear hk); (try clear hi); (try clear ho0); obtain ⟨Ao36, co36, eo36⟩ := Kd.R_slice HO290.out; subst eo36) | ((with_reducible refine gate_callee (f := 45) rfl ?_); refine goesL_ (some 65) rfl rfl Tryd.func45 (by kernel_rfl) rfl #[.slice Ao36 t288.length co36, .slice Ao31 x13_13.length co31] rfl (by (try simp only [List.map_toArray, List.map_cons, List.map_nil]); first | done | rfl | (simp only [List.length_drop, List.length_take]; rfl)) ?_; (with_reducible refine (numeralref13_Cmp.calls kj13 _ _ t288 _ _ x13_13 t291 _ ?side1 ?side2 ?side3 ?side4 A28.out).mono ?_); (case side1 => repeat (first | exact (Kd.R_reads' HO290.out).2.2 | (with_reducible refine Kd.C_alloc ?_ _) | (with_reducible refine Kd.C_drewN ?_ _) | (with_reducible refine Kd.C_drew ?_))); (case side2 => exact (Kd.R_reads' HO290.out).2.1); (case side3 => repeat (first | exact (Kd.R_reads' HO_13.out).2.2 | (with_reducible refine Kd.C_alloc ?_ _) | (with_reducible refine Kd.C_drewN ?_ _) | (with_reducible refine Kd.C_drew ?_))); (case side4 => exact (Kd.R_reads' HO_13.out).2.1); rintro e w' ⟨rfl, ⟨nd, rfl⟩⟩; refine ⟨_, rfl, ?_⟩))
       (try simp only [Act.put, List.setIfInBounds_toArray, List.set_cons_zero, List.set_cons_succ])
       go_cut [17] (fun v17 wc => ∃ (kq : Nat) (x17_28 : Bool), v17 = .bool x17_28 ∧ Aside0 (numeralref13_Nearest.j2 kq l0 l1 a2 a3 x11_1 t281 t291 x17_28 = some (r1, r2, r3, r4)) ∧ Aside0 (kq ≤ kj13) ∧ Aside0 (Kd.R (Kd.int .u64) 22 wc w0.heap.size (fun k_ => ((P0_ k_ ∨ P1_ k_) ∨ w.heap.size ≤ k_) ∧ some k_ ≠ ((.slice Ao13 l1.length co13) : Value).ownBlock ∧ some k_ ≠ ((.slice Ao33 t281.length co33) : Value).ownBlock) (.slice Ao12 l0.length co12) l0) ∧ Aside0 (Kd.R (Kd.int .u64) 22 wc w0.heap.size (fun k_ => ((P0_ k_ ∨ P1_ k_) ∨ w.heap.size ≤ k_) ∧ some k_ ≠ ((.slice Ao12 l0.length co12) : Value).ownBlock ∧ some k_ ≠ ((.slice Ao33 t281.length co33) : Value).ownBlock) (.slice Ao13 l1.length co13) l1) ∧ Aside0 (Kd.R (Kd.int .u64) 22 wc w0.heap.size (fun k_ => ((P0_ k_ ∨ P1_ k_) ∨ w.heap.size ≤ k_) ∧ some k_ ≠ ((.slice Ao12 l0.length co12) : Value).ownBlock ∧ some k_ ≠ ((.slice Ao13 l1.length co13) : Value).ownBlock) (.slice Ao33 t281.length co33) t281) ∧ Aside0 (Kept w wc (fun k_ => P0_ k_ ∨ P1_ k_)) ∧ Aside0 (Below w0.heap.size w0 wc))
       case first =>
        have H := HC29.out
        clear HC29
        by_cases c37 : (t281.length : Int) > 0
        ·rw [if_pos c37] at H
         have c37b0 : decide (0 < (t281.length : Int)) = true := decide_eq_true c37
         have c37b1 : decide (0 < t281.length) = true := decide_eq_true (by omega)
         clear c37
         (first | rw [c37b0] | (simp only [i64_w, i32_w]; rw [c37b0]) | skip)
         by_cases c38 : 0 < (t281.length : Int)
         ·rw [if_pos c38] at H
          have c38b0 : decide (0 < (t281.length : Int)) = true := decide_eq_true c38
          have c38b1 : decide (0 < t281.length) = true := decide_eq_true (by omega)
          clear c38
          obtain ⟨ji39, hji39⟩ : ∃ j_ : Int, (Go.bits .and .u64 (rd t281 0) 1) = j_ := ⟨_, rfl⟩
          replace H : (numeralref13_Nearest.j2 kj13 l0 l1 a2 a3 x11_1 t281 t291 ((ji39) == 1)) = some (r1, r2, r3, r4) := by first | (rw [hji39] at H; exact H) | (simp only [hji39] at H ⊢; exact H)
          have H' := Aside0.mk H
          clear H
          have p292 : 0 ≤ (0 : Int) := (by omega)
          have q292 : 0 < (t281.length : Int) := of_decide_eq_true (by first | (with_reducible assumption) | assumption)
          obtain ⟨ad292, e292, hx292_0⟩ := Kd.at_int (Kd.R_reads' HO284.out).2.2 0 p292 q292
          cases e292
          have qi292 : (0 < t281.length) = True := eq_true (by omega)
          (try rw [show ((0 : Int)).toNat = 0 from rfl] at hx292_0)
          (try rw [Addr.add_zero'] at hx292_0)
          replace p292 := eq_true p292
          replace q292 := eq_true q292
          go_wp2
          go_meet
          case rel => exact ⟨_, (((ji39) == 1)), (by first | rfl | (simp; done) | (simp only [← hji39] <;> (first | rfl | simp)) | (simp [*]; done)), H', ⟨by have := HK1.out; have := HJ13.out; first | omega | exact Nat.le_refl _⟩, ⟨by (with_reducible repeat (first | apply Kd.R_alloc | apply Kd.R_drewN | apply Kd.R_drew)); exact Kd.R_mono HO_0.out (fun _ hk => by first | exact ⟨hk.1.1.1.1, ⟨hk.1.1.1.2.1, hk.1.1.2⟩⟩ | ((repeat' apply And.intro) <;> first | exact hk.1.1.1.1 | exact hk.1.1.1.2 | exact hk.1.1.1 | exact hk.1.1.2 | exact hk.1.1 | exact hk.1.2 | exact hk.2 | exact hk.2.1 | exact hk.2.2 | exact hk.1 | exact hk))⟩, ⟨by (with_reducible repeat (first | apply Kd.R_alloc | apply Kd.R_drewN | apply Kd.R_drew)); exact Kd.R_mono HO_1.out (fun _ hk => by first | exact ⟨hk.1.1.1.1, ⟨hk.1.1.1.2.1, hk.1.1.2⟩⟩ | ((repeat' apply And.intro) <;> first | exact hk.1.1.1.1 | exact hk.1.1.1.2 | exact hk.1.1.1 | exact hk.1.1.2 | exact hk.1.1 | exact hk.1.2 | exact hk.2 | exact hk.2.1 | exact hk.2.2 | exact hk.1 | exact hk))⟩, ⟨by (with_reducible repeat (first | apply Kd.R_alloc | apply Kd.R_drewN | apply Kd.R_drew)); exact Kd.R_mono HO284.out (fun _ hk => by first | exact ⟨hk.1.1.1.1.1.1, ⟨hk.1.1.1.1.2, hk.1.1.1.2⟩⟩ | ((repeat' apply And.intro) <;> first | exact hk.1.1.1.1 | exact hk.1.1.1.2 | exact hk.1.1.1 | exact hk.1.1.2 | exact hk.1.1 | exact hk.1.2 | exact hk.2 | exact hk.2.1 | exact hk.2.2 | exact hk.1 | exact hk))⟩, ⟨by repeat (first | (with_reducible first | exact HK.out | apply Kept.alloc | apply Kept.drewN | apply Kept.drew) | exact HK.out)⟩, ⟨by repeat (first | (with_reducible first | exact HB.out | apply below_alloc | apply pw_below_drewN | apply below_drew1) | exact HB.out)⟩⟩
         ·rw [if_neg c38] at H
          exact absurd H (by simp)
        ·rw [if_neg c37] at H
         have c37b0 : decide (0 < (t281.length : Int)) = false := decide_eq_false c37
         have c37b1 : decide (0 < t281.length) = false := decide_eq_false (by omega)
         clear c37
         (first | rw [c37b0] | (simp only [i64_w, i32_w]; rw [c37b0]) | skip)
         have H' := Aside0.mk H
         clear H
         go_wp2
         go_meet
         case rel => exact ⟨_, (false), (by first | rfl | (simp; done) | (simp [*]; done)), H', ⟨by have := HK1.out; have := HJ13.out; first | omega | exact Nat.le_refl _⟩, ⟨by (with_reducible repeat (first | apply Kd.R_alloc | apply Kd.R_drewN | apply Kd.R_drew)); exact Kd.R_mono HO_0.out (fun _ hk => by first | exact ⟨hk.1.1.1.1, ⟨hk.1.1.1.2.1, hk.1.1.2⟩⟩ | ((repeat' apply And.intro) <;> first | exact hk.1.1.1.1 | exact hk.1.1.1.2 | exact hk.1.1.1 | exact hk.1.1.2 | exact hk.1.1 | exact hk.1.2 | exact hk.2 | exact hk.2.1 | exact hk.2.2 | exact hk.1 | exact hk))⟩, ⟨by (with_reducible repeat (first | apply Kd.R_alloc | apply Kd.R_drewN | apply Kd.R_drew)); exact Kd.R_mono HO_1.out (fun _ hk => by first | exact ⟨hk.1.1.1.1, ⟨hk.1.1.1.2.1, hk.1.1.2⟩⟩ | ((repeat' apply And.intro) <;> first | exact hk.1.1.1.1 | exact hk.1.1.1.2 | exact hk.1.1.1 | exact hk.1.1.2 | exact hk.1.1 | exact hk.1.2 | exact hk.2 | exact hk.2.1 | exact hk.2.2 | exact hk.1 | exact hk))⟩, ⟨by (with_reducible repeat (first | apply Kd.R_alloc | apply Kd.R_drewN | apply Kd.R_drew)); exact Kd.R_mono HO284.out (fun _ hk => by first | exact ⟨hk.1.1.1.1.1.1, ⟨hk.1.1.1.1.2, hk.1.1.1.2⟩⟩ | ((repeat' apply And.intro) <;> first | exact hk.1.1.1.1 | exact hk.1.1.1.2 | exact hk.1.1.1 | exact hk.1.1.2 | exact hk.1.1 | exact hk.1.2 | exact hk.2 | exact hk.2.1 | exact hk.2.2 | exact hk.1 | exact hk))⟩, ⟨by repeat (first | (with_reducible first | exact HK.out | apply Kept.alloc | apply Kept.drewN | apply Kept.drew) | exact HK.out)⟩, ⟨by repeat (first | (with_reducible first | exact HB.out | apply below_alloc | apply pw_below_drewN | apply below_drew1) | exact HB.out)⟩⟩
       case rest =>
        clear HC29
        try clear c1
        try clear p1
        try clear c2
        try clear p2
        try clear q2
        try clear hx2
        try clear qi2
        try clear c3
        try clear c4
        try clear c5
        try clear c5b0
        try clear c5b1
        try clear c5b2
        try clear p6
        try clear c15
        try clear c15b0
        try clear c22
        try clear c22b0
        try clear p29
        try clear q29
        try clear hx29
        try clear qi29
        try clear c37
        try clear c37b0
        try clear c37b1
        try clear c38
        try clear c38b0
        try clear c38b1
        try clear hx292_0
        try clear p1
        try clear p2
        try clear p292
        try clear p6
        try clear q292
        obtain ⟨kq, x17_28, rfl, HA, HJ28, HO_0, HO_1, HO_14, HK, HB⟩ := hcut
        cases kq with
        | zero => exact absurd HA.out (by simp [numeralref13_Nearest.j2])
        | succ kj28 =>
         have H := HA.out
         clear HA
         simp only [numeralref13_Nearest.j2] at H
         have HC40 := Aside0.mk H
         clear H
         go_upto_region 14 with (fail)
         go_cut [92] (fun v92 wc => ∃ (kq : Nat) (x92_39 : Bool), v92 = .bool x92_39 ∧ Aside0 (numeralref13_Nearest.j3 kq l0 l1 a2 x11_1 t281 x92_39 = some (r1, r2, r3, r4)) ∧ Aside0 (kq ≤ kj28) ∧ Aside0 (Kd.R (Kd.int .u64) 22 wc w0.heap.size (fun k_ => ((P0_ k_ ∨ P1_ k_) ∨ w.heap.size ≤ k_) ∧ some k_ ≠ ((.slice Ao13 l1.length co13) : Value).ownBlock ∧ some k_ ≠ ((.slice Ao33 t281.length co33) : Value).ownBlock) (.slice Ao12 l0.length co12) l0) ∧ Aside0 (Kd.R (Kd.int .u64) 22 wc w0.heap.size (fun k_ => ((P0_ k_ ∨ P1_ k_) ∨ w.heap.size ≤ k_) ∧ some k_ ≠ ((.slice Ao12 l0.length co12) : Value).ownBlock ∧ some k_ ≠ ((.slice Ao33 t281.length co33) : Value).ownBlock) (.slice Ao13 l1.length co13) l1) ∧ Aside0 (Kd.R (Kd.int .u64) 22 wc w0.heap.size (fun k_ => ((P0_ k_ ∨ P1_ k_) ∨ w.heap.size ≤ k_) ∧ some k_ ≠ ((.slice Ao12 l0.length co12) : Value).ownBlock ∧ some k_ ≠ ((.slice Ao13 l1.length co13) : Value).ownBlock) (.slice Ao33 t281.length co33) t281) ∧ Aside0 (Kept w wc (fun k_ => P0_ k_ ∨ P1_ k_)) ∧ Aside0 (Below w0.heap.size w0 wc))
         case first =>
          have H := HC40.out
          clear HC40
          by_cases c41 : t291 > 0
          ·rw [if_pos c41] at H
           have c41b0 : decide (0 < t291) = true := decide_eq_true c41
           clear c41
           (first | rw [c41b0] | (simp only [i64_w, i32_w]; rw [c41b0]) | skip)
           have H' := Aside0.mk H
           clear H
           go_wp2
           go_meet
           case rel => exact ⟨_, (true), (by first | rfl | (simp; done) | (simp [*]; done)), H', ⟨by have := HK1.out; have := HJ13.out; have := HJ28.out; first | omega | exact Nat.le_refl _⟩, ⟨by (with_reducible repeat (first | apply Kd.R_alloc | apply Kd.R_drewN | apply Kd.R_drew)); exact HO_0.out⟩, ⟨by (with_reducible repeat (first | apply Kd.R_alloc | apply Kd.R_drewN | apply Kd.R_drew)); exact HO_1.out⟩, ⟨by (with_reducible repeat (first | apply Kd.R_alloc | apply Kd.R_drewN | apply Kd.R_drew)); exact HO_14.out⟩, ⟨by repeat (first | (with_reducible first | exact HK.out | apply Kept.alloc | apply Kept.drewN | apply Kept.drew) | exact HK.out)⟩, ⟨by repeat (first | (with_reducible first | exact HB.out | apply below_alloc | apply pw_below_drewN | apply below_drew1) | exact HB.out)⟩⟩
          ·rw [if_neg c41] at H
           have c41b0 : decide (0 < t291) = false := decide_eq_false c41
           clear c41
           (first | rw [c41b0] | (simp only [i64_w, i32_w]; rw [c41b0]) | skip)
           by_cases c42 : t291 = 0
           ·rw [if_pos c42] at H
            have c42b0 : (t291 == 0) = true := beq_iff_eq.mpr c42
            have c42b1 : (t291 != 0) = false := bne_eq_false_iff_eq.mpr c42
            clear c42
            by_cases c43 : a3 > 0
            ·rw [if_pos c43] at H
             have c43b0 : decide (0 < a3) = true := decide_eq_true c43
             clear c43
             have H' := Aside0.mk H
             clear H
             go_wp2
             go_meet
             case rel => exact ⟨_, (true), (by first | rfl | (simp; done) | (simp [*]; done)), H', ⟨by have := HK1.out; have := HJ13.out; have := HJ28.out; first | omega | exact Nat.le_refl _⟩, ⟨by (with_reducible repeat (first | apply Kd.R_alloc | apply Kd.R_drewN | apply Kd.R_drew)); exact HO_0.out⟩, ⟨by (with_reducible repeat (first | apply Kd.R_alloc | apply Kd.R_drewN | apply Kd.R_drew)); exact HO_1.out⟩, ⟨by (with_reducible repeat (first | apply Kd.R_alloc | apply Kd.R_drewN | apply Kd.R_drew)); exact HO_14.out⟩, ⟨by repeat (first | (with_reducible first | exact HK.out | apply Kept.alloc | apply Kept.drewN | apply Kept.drew) | exact HK.out)⟩, ⟨by repeat (first | (with_reducible first | exact HB.out | apply below_alloc | apply pw_below_drewN | apply below_drew1) | exact HB.out)⟩⟩
            ·rw [if_neg c43] at H
             have c43b0 : decide (0 < a3) = false := decide_eq_false c43
             clear c43
             by_cases c44 : a3 = 0
             ·rw [if_pos c44] at H
              have c44b0 : (a3 == 0) = true := beq_iff_eq.mpr c44
              have c44b1 : (a3 != 0) = false := bne_eq_false_iff_eq.mpr c44
              clear c44
              have H' := Aside0.mk H
              clear H
              go_wp2
              go_meet
              case rel => exact ⟨_, (x17_28), (by first | rfl | (simp; done) | (simp [*]; done)), H', ⟨by have := HK1.out; have := HJ13.out; have := HJ28.out; first | omega | exact Nat.le_refl _⟩, ⟨by (with_reducible repeat (first | apply Kd.R_alloc | apply Kd.R_drewN | apply Kd.R_drew)); exact HO_0.out⟩, ⟨by (with_reducible repeat (first | apply Kd.R_alloc | apply Kd.R_drewN | apply Kd.R_drew)); exact HO_1.out⟩, ⟨by (with_reducible repeat (first | apply Kd.R_alloc | apply Kd.R_drewN | apply Kd.R_drew)); exact HO_14.out⟩, ⟨by repeat (first | (with_reducible first | exact HK.out | apply Kept.alloc | apply Kept.drewN | apply Kept.drew) | exact HK.out)⟩, ⟨by repeat (first | (with_reducible first | exact HB.out | apply below_alloc | apply pw_below_drewN | apply below_drew1) | exact HB.out)⟩⟩
             ·rw [if_neg c44] at H
              have c44b0 : (a3 == 0) = false := beq_eq_false_iff_ne.mpr c44
              have c44b1 : (a3 != 0) = true := bne_iff_ne.mpr c44
              have H' := Aside0.mk H
              clear H
              go_wp2
              go_meet
              case rel => exact ⟨_, (false), (by first | rfl | (simp; done) | (simp [*]; done)), H', ⟨by have := HK1.out; have := HJ13.out; have := HJ28.out; first | omega | exact Nat.le_refl _⟩, ⟨by (with_reducible repeat (first | apply Kd.R_alloc | apply Kd.R_drewN | apply Kd.R_drew)); exact HO_0.out⟩, ⟨by (with_reducible repeat (first | apply Kd.R_alloc | apply Kd.R_drewN | apply Kd.R_drew)); exact HO_1.out⟩, ⟨by (with_reducible repeat (first | apply Kd.R_alloc | apply Kd.R_drewN | apply Kd.R_drew)); exact HO_14.out⟩, ⟨by repeat (first | (with_reducible first | exact HK.out | apply Kept.alloc | apply Kept.drewN | apply Kept.drew) | exact HK.out)⟩, ⟨by repeat (first | (with_reducible first | exact HB.out | apply below_alloc | apply pw_below_drewN | apply below_drew1) | exact HB.out)⟩⟩
           ·rw [if_neg c42] at H
            have c42b0 : (t291 == 0) = false := beq_eq_false_iff_ne.mpr c42
            have c42b1 : (t291 != 0) = true := bne_iff_ne.mpr c42
            have H' := Aside0.mk H
            clear H
            go_wp2
            go_meet
            case rel => exact ⟨_, (false), (by first | rfl | (simp; done) | (simp [*]; done)), H', ⟨by have := HK1.out; have := HJ13.out; have := HJ28.out; first | omega | exact Nat.le_refl _⟩, ⟨by (with_reducible repeat (first | apply Kd.R_alloc | apply Kd.R_drewN | apply Kd.R_drew)); exact HO_0.out⟩, ⟨by (with_reducible repeat (first | apply Kd.R_alloc | apply Kd.R_drewN | apply Kd.R_drew)); exact HO_1.out⟩, ⟨by (with_reducible repeat (first | apply Kd.R_alloc | apply Kd.R_drewN | apply Kd.R_drew)); exact HO_14.out⟩, ⟨by repeat (first | (with_reducible first | exact HK.out | apply Kept.alloc | apply Kept.drewN | apply Kept.drew) | exact HK.out)⟩, ⟨by repeat (first | (with_reducible first | exact HB.out | apply below_alloc | apply pw_below_drewN | apply below_drew1) | exact HB.out)⟩⟩
         case rest =>
          clear HC40
          try clear c1
          try clear p1
          try clear c2
          try clear p2
          try clear q2
          try clear hx2
          try clear qi2
          try clear c3
          try clear c4
          try clear c5
          try clear c5b0
          try clear c5b1
          try clear c5b2
          try clear p6
          try clear c15
          try clear c15b0
          try clear c22
          try clear c22b0
          try clear p29
          try clear q29
          try clear hx29
          try clear qi29
          try clear c37
          try clear c37b0
          try clear c37b1
          try clear c38
          try clear c38b0
          try clear c38b1
          try clear c41
          try clear c41b0
          try clear c42
          try clear c42b0
          try clear c42b1
          try clear c43
          try clear c43b0
          try clear c44
          try clear c44b0
          try clear c44b1
          try clear hx292_0
          try clear p1
          try clear p2
          try clear p29
          try clear p292
          try clear p6
          try clear q2
          try clear q29
          try clear q292
          obtain ⟨kq, x92_39, rfl, HA, HJ39, HO_0, HO_1, HO_14, HK, HB⟩ := hcut
          cases kq with
          | zero => exact absurd HA.out (by simp [numeralref13_Nearest.j3])
          | succ kj39 =>
           have H := HA.out
           clear HA
           simp only [numeralref13_Nearest.j3] at H
           have HC45 := Aside0.mk H
           clear H
           go_upto_if 92 with (fail)
           go_cut [14] (fun v14 wc => ∃ (kq : Nat) (x14_44 : List Int), Aside0 (numeralref13_Nearest.j4 kq l0 l1 a2 x11_1 x14_44 = some (r1, r2, r3, r4)) ∧ Aside0 (kq ≤ kj39) ∧ Aside0 (Kd.R (Kd.int .u64) 22 wc w0.heap.size (fun k_ => ((P0_ k_ ∨ P1_ k_) ∨ w.heap.size ≤ k_) ∧ some k_ ≠ ((.slice Ao13 l1.length co13) : Value).ownBlock ∧ some k_ ≠ (v14 : Value).ownBlock) (.slice Ao12 l0.length co12) l0) ∧ Aside0 (Kd.R (Kd.int .u64) 22 wc w0.heap.size (fun k_ => ((P0_ k_ ∨ P1_ k_) ∨ w.heap.size ≤ k_) ∧ some k_ ≠ ((.slice Ao12 l0.length co12) : Value).ownBlock ∧ some k_ ≠ (v14 : Value).ownBlock) (.slice Ao13 l1.length co13) l1) ∧ Aside0 (Kd.R (Kd.int .u64) 22 wc w0.heap.size (fun k_ => ((P0_ k_ ∨ P1_ k_) ∨ w.heap.size ≤ k_) ∧ some k_ ≠ ((.slice Ao12 l0.length co12) : Value).ownBlock ∧ some k_ ≠ ((.slice Ao13 l1.length co13) : Value).ownBlock) v14 x14_44) ∧ Aside0 (Kept w wc (fun k_ => P0_ k_ ∨ P1_ k_)) ∧ Aside0 (Below w0.heap.size w0 wc))
           case first =>
            have H := HC45.out
            clear HC45
            by_cases c46 : x92_39 = true
            ·subst c46
             have H1 : ((numeralref13_Add.f kj39 t281 (([1] : List Int))).bind fun t296 => (numeralref13_Nearest.j4 kj39 l0 l1 a2 x11_1 t296)) = some (r1, r2, r3, r4) := by rw [if_pos rfl] at H; exact H
             clear H
             have H := H1
             clear H1
             obtain ⟨y293, hy293⟩ : ∃ y_ : List Int, y_ = (([1] : List Int)) := ⟨_, rfl⟩
             replace H : ((numeralref13_Add.f kj39 t281 y293).bind fun t296 => (numeralref13_Nearest.j4 kj39 l0 l1 a2 x11_1 t296)) = some (r1, r2, r3, r4) := by first | (rw [hy293]; with_reducible exact H) | (have H2_ := (Option.bind_some _ _).symm.trans H; rw [hy293]; with_reducible exact H2_) | (have H2_ := (Option.bind_some _ _).symm.trans H; with_reducible exact H2_) | with_reducible exact H | (rw [hy293]; exact H) | exact H
             have Ny293 := Aside0.mk hy293
             clear hy293
             replace H := Option.bind_eq_some_iff.mp H
             obtain ⟨t296, A470, H⟩ := H
             replace H : (numeralref13_Nearest.j4 kj39 l0 l1 a2 x11_1 t296) = some (r1, r2, r3, r4) := H
             have A47 := Aside0.mk A470
             clear A470
             have H' := Aside0.mk H
             clear H
             go_wp2_with (first | ((with_reducible refine gate_dst (N := 94) rfl ?_); refine Kd.R_lit (Kd.int .u64) _ 22 ?hg (N := 94) ?hd (xs := ([1] : List Int)) (inner := [.int .u64 1]) (ok := fun _ => True) (okp := fun _ => True) ?hr ?hp (fun _ hk => hk) trivial (Below.refl _ _) (Nat.le_refl _) (by simp) ?_; (case hd => rfl); (case hg => rfl); (case hr => first | (go_simp; done) | (go_simp; rfl)); (case hp => exact (Reps.one (show Kd.M (Kd.int .u64) _ _ _ 1 [.int .u64 1] from rfl) (Reps.none _ _))); intro v294 w48 ho49 hb hg_ hnew_; clear hg_ hnew_; (first | rw [← Ny293.out] at ho49 | (simp only [Int.reduceToNat] at ho49; rw [← Ny293.out] at ho49)); have n0_ := Aside0.mk (Kd.R_elder' (by (with_reducible repeat (first | apply Kd.R_alloc | apply Kd.R_drewN | apply Kd.R_drew)); exact HO_0.out) (Kd.R_base ho49) hb); have n1_ := Aside0.mk (Kd.R_elder' (by (with_reducible repeat (first | apply Kd.R_alloc | apply Kd.R_drewN | apply Kd.R_drew)); exact HO_1.out) (Kd.R_base ho49) hb); have n2_ := Aside0.mk (Kd.R_elder' (by (with_reducible repeat (first | apply Kd.R_alloc | apply Kd.R_drewN | apply Kd.R_drew)); exact HO_14.out) (Kd.R_base ho49) hb); have n3_ := Aside0.mk (Kd.R_lower (Kd.R_new' (Kd.R_new' (Kd.R_new' (Kd.R_newM (M := fun k_ => ((P0_ k_ ∨ P1_ k_) ∨ w.heap.size ≤ k_)) ho49 (by first | exact HK.out.1 | exact (show Kept w _ (fun k_ => P0_ k_ ∨ P1_ k_) from by repeat (first | (with_reducible first | exact HK.out | apply Kept.alloc | apply Kept.drewN | apply Kept.drew) | exact HK.out)).1) (fun k_ h_ => .inr h_)) (Kd.R_lt (by (with_reducible repeat (first | apply Kd.R_alloc | apply Kd.R_drewN | apply Kd.R_drew)); exact HO_0.out))) (Kd.R_lt (by (with_reducible repeat (first | apply Kd.R_alloc | apply Kd.R_drewN | apply Kd.R_drew)); exact HO_1.out))) (Kd.R_lt (by (with_reducible repeat (first | apply Kd.R_alloc | apply Kd.R_drewN | apply Kd.R_drew)); exact HO_14.out))) (below_size (by repeat (first | (with_reducible first | exact HB.out | apply below_alloc | apply pw_below_drewN | apply below_drew1) | exact HB.out)))); have n4_ := Aside0.mk (Kept.below (S := (fun k_ => P0_ k_ ∨ P1_ k_)) (by repeat (first | (with_reducible first | exact HK.out | apply Kept.alloc | apply Kept.drewN | apply Kept.drew) | exact HK.out)) hb); have n5_ := Aside0.mk (below_step (by repeat (first | (with_reducible first | exact HB.out | apply below_alloc | apply pw_below_drewN | apply below_drew1) | exact HB.out)) hb); clear HO_0; clear HO_1; clear HO_14; clear HK; clear HB; have HO_0 := n0_; have HO_1 := n1_; have HO_14 := n2_; have HO295 := n3_; have HK := n4_; have HB := n5_; clear n0_ n1_ n2_ n3_ n4_ n5_; clear hb ho49; obtain ⟨Ao50, co50, eo50⟩ := Kd.R_slice HO295.out; subst eo50) | ((with_reducible refine gate_callee (f := 29) rfl ?_); refine goesL_ (some 95) rfl rfl Tryd.func29 (by kernel_rfl) rfl #[.slice Ao33 t281.length co33, .slice Ao50 y293.length co50] rfl (by (try simp only [List.map_toArray, List.map_cons, List.map_nil]); first | done | rfl | (simp only [List.length_drop, List.length_take]; rfl)) ?_; (with_reducible refine (numeralref13_Add.calls kj39 _ _ t281 _ _ y293 t296 _ ?side1 ?side2 ?side3 ?side4 A47.out).mono ?_); (case side1 => repeat (first | exact (Kd.R_reads' HO_14.out).2.2 | (with_reducible refine Kd.C_alloc ?_ _) | (with_reducible refine Kd.C_drewN ?_ _) | (with_reducible refine Kd.C_drew ?_))); (case side2 => exact (Kd.R_reads' HO_14.out).2.1); (case side3 => repeat (first | exact (Kd.R_reads' HO295.out).2.2 | (with_reducible refine Kd.C_alloc ?_ _) | (with_reducible refine Kd.C_drewN ?_ _) | (with_reducible refine Kd.C_drew ?_))); (case side4 => exact (Kd.R_reads' HO295.out).2.1); rintro e w51 ⟨v297, rfl, ho0, hb⟩; refine ⟨_, rfl, ?_⟩; have n0_ := Aside0.mk (Kd.R_elder' (by (with_reducible repeat (first | apply Kd.R_alloc | apply Kd.R_drewN | apply Kd.R_drew)); exact HO_0.out) (Kd.R_base ho0) hb); have n1_ := Aside0.mk (Kd.R_elder' (by (with_reducible repeat (first | apply Kd.R_alloc | apply Kd.R_drewN | apply Kd.R_drew)); exact HO_1.out) (Kd.R_base ho0) hb); have n2_ := Aside0.mk (Kd.R_elder' (by (with_reducible repeat (first | apply Kd.R_alloc | apply Kd.R_drewN | apply Kd.R_drew)); exact HO_14.out) (Kd.R_base ho0) hb); have n3_ := Aside0.mk (Kd.R_elder' (by (with_reducible repeat (first | apply Kd.R_alloc | apply Kd.R_drewN | apply Kd.R_drew)); exact HO295.out) (Kd.R_base ho0) hb); have n4_ := Aside0.mk (Kd.R_lower (Kd.R_new' (Kd.R_new' (Kd.R_new' (Kd.R_new' (Kd.R_newM (M := fun k_ => ((P0_ k_ ∨ P1_ k_) ∨ w.heap.size ≤ k_)) ho0 (by first | exact HK.out.1 | exact (show Kept w _ (fun k_ => P0_ k_ ∨ P1_ k_) from by repeat (first | (with_reducible first | exact HK.out | apply Kept.alloc | apply Kept.drewN | apply Kept.drew) | exact HK.out)).1) (fun k_ h_ => .inr h_)) (Kd.R_lt (by (with_reducible repeat (first | apply Kd.R_alloc | apply Kd.R_drewN | apply Kd.R_drew)); exact HO_0.out))) (Kd.R_lt (by (with_reducible repeat (first | apply Kd.R_alloc | apply Kd.R_drewN | apply Kd.R_drew)); exact HO_1.out))) (Kd.R_lt (by (with_reducible repeat (first | apply Kd.R_alloc | apply Kd.R_drewN | apply Kd.R_drew)); exact HO_14.out))) (Kd.R_lt (by (with_reducible repeat (first | apply Kd.R_alloc | apply Kd.R_drewN | apply Kd.R_drew)); exact HO295.out))) (below_size (by repeat (first | (with_reducible first | exact HB.out | apply below_alloc | apply pw_below_drewN | apply below_drew1) | exact HB.out)))); have n5_ := Aside0.mk (Kept.below (S := (fun k_ => P0_ k_ ∨ P1_ k_)) (by repeat (first | (with_reducible first | exact HK.out | apply Kept.alloc | apply Kept.drewN | apply Kept.drew) | exact HK.out)) hb); have n6_ := Aside0.mk (below_step (by repeat (first | (with_reducible first | exact HB.out | apply below_alloc | apply pw_below_drewN | apply below_drew1) | exact HB.out)) hb); clear HO_0; clear HO_1; clear HO_14; clear HO295; clear HK; clear HB; have HO_0 := n0_; have HO_1 := n1_; have HO_14 := n2_; have HO295 := n3_; have HO298 := n4_; have HK := n5_; have HB := n6_; clear n0_ n1_ n2_ n3_ n4_ n5_ n6_; (try clear hb); (try clear hb2); (try clear hk); (try clear hi); (try clear ho0)))
             go_meet
             case rel => exact ⟨_, (t296), H', ⟨by have := HK1.out; have := HJ13.out; have := HJ28.out; have := HJ39.out; first | omega | exact Nat.le_refl _⟩, ⟨by (with_reducible repeat (first | apply Kd.R_alloc | apply Kd.R_drewN | apply Kd.R_drew)); exact Kd.R_mono HO_0.out (fun _ hk => by first | exact ⟨hk.1.1.1, ⟨hk.1.1.2.1, hk.2⟩⟩ | ((repeat' apply And.intro) <;> first | exact hk.1.1.1.1 | exact hk.1.1.1.2 | exact hk.1.1.1 | exact hk.1.1.2 | exact hk.1.1 | exact hk.1.2 | exact hk.2 | exact hk.2.1 | exact hk.2.2 | exact hk.1 | exact hk))⟩, ⟨by (with_reducible repeat (first | apply Kd.R_alloc | apply Kd.R_drewN | apply Kd.R_drew)); exact Kd.R_mono HO_1.out (fun _ hk => by first | exact ⟨hk.1.1.1, ⟨hk.1.1.2.1, hk.2⟩⟩ | ((repeat' apply And.intro) <;> first | exact hk.1.1.1.1 | exact hk.1.1.1.2 | exact hk.1.1.1 | exact hk.1.1.2 | exact hk.1.1 | exact hk.1.2 | exact hk.2 | exact hk.2.1 | exact hk.2.2 | exact hk.1 | exact hk))⟩, ⟨by (with_reducible repeat (first | apply Kd.R_alloc | apply Kd.R_drewN | apply Kd.R_drew)); exact Kd.R_mono HO298.out (fun _ hk => by first | exact ⟨hk.1.1.1.1.1, ⟨hk.1.1.1.2, hk.1.1.2⟩⟩ | ((repeat' apply And.intro) <;> first | exact hk.1.1.1.1 | exact hk.1.1.1.2 | exact hk.1.1.1 | exact hk.1.1.2 | exact hk.1.1 | exact hk.1.2 | exact hk.2 | exact hk.2.1 | exact hk.2.2 | exact hk.1 | exact hk))⟩, ⟨by repeat (first | (with_reducible first | exact HK.out | apply Kept.alloc | apply Kept.drewN | apply Kept.drew) | exact HK.out)⟩, ⟨by repeat (first | (with_reducible first | exact HB.out | apply below_alloc | apply pw_below_drewN | apply below_drew1) | exact HB.out)⟩⟩
            ·replace c46 := Bool.eq_false_iff.mpr c46
             subst c46
             have H1 : (numeralref13_Nearest.j4 kj39 l0 l1 a2 x11_1 t281) = some (r1, r2, r3, r4) := by rw [if_neg (show ¬ (false = true) by decide)] at H; exact H
             clear H
             have H := H1
             clear H1
             have H' := Aside0.mk H
             clear H
             go_wp2
             go_meet
             case rel => exact ⟨_, (t281), H', ⟨by have := HK1.out; have := HJ13.out; have := HJ28.out; have := HJ39.out; first | omega | exact Nat.le_refl _⟩, ⟨by (with_reducible repeat (first | apply Kd.R_alloc | apply Kd.R_drewN | apply Kd.R_drew)); exact HO_0.out⟩, ⟨by (with_reducible repeat (first | apply Kd.R_alloc | apply Kd.R_drewN | apply Kd.R_drew)); exact HO_1.out⟩, ⟨by (with_reducible repeat (first | apply Kd.R_alloc | apply Kd.R_drewN | apply Kd.R_drew)); exact HO_14.out⟩, ⟨by repeat (first | (with_reducible first | exact HK.out | apply Kept.alloc | apply Kept.drewN | apply Kept.drew) | exact HK.out)⟩, ⟨by repeat (first | (with_reducible first | exact HB.out | apply below_alloc | apply pw_below_drewN | apply below_drew1) | exact HB.out)⟩⟩
           case rest =>
            clear HC45
            try clear c1
            try clear p1
            try clear c2
            try clear p2
            try clear q2
            try clear hx2
            try clear qi2
            try clear c3
            try clear c4
            try clear c5
            try clear c5b0
            try clear c5b1
            try clear c5b2
            try clear p6
            try clear c15
            try clear c15b0
            try clear c22
            try clear c22b0
            try clear c29
            try clear p29
            try clear q29
            try clear hx29
            try clear qi29
            try clear c37
            try clear c37b0
            try clear c37b1
            try clear c38
            try clear c38b0
            try clear c38b1
            try clear c41
            try clear c41b0
            try clear c42
            try clear c42b0
            try clear c42b1
            try clear c43
            try clear c43b0
            try clear c44
            try clear c44b0
            try clear c44b1
            try clear c45
            try clear c46
            try clear hx292_0
            try clear p1
            try clear p2
            try clear p29
            try clear p292
            try clear p6
            try clear q2
            try clear q29
            try clear q292
            obtain ⟨kq, x14_44, HA, HJ44, HO_0, HO_1, HO_14, HK, HB⟩ := hcut
            cases kq with
            | zero => exact absurd HA.out (by simp [numeralref13_Nearest.j4])
            | succ kj44 =>
             have H := HA.out
             clear HA
             simp only [numeralref13_Nearest.j4] at H
             have H' := Aside0.mk H
             clear H
             obtain ⟨Ao52, co52, eo52⟩ := Kd.R_slice HO_14.out
             subst eo52
             go_wp2
             go_loopg [18, 19] kj44 (fun kq v18 v19 w' => ∃ (x18_6 : Int) (x19_6 : Int), v18 = .int .u64 x18_6 ∧ v19 = .int .i64 x19_6 ∧ Aside0 (numeralref13_Nearest.l1 kq l0 l1 a2 x11_1 x14_44 x18_6 x19_6 = some (r1, r2, r3, r4)) ∧ Aside0 (kq ≤ kj44) ∧ Aside0 (Kd.R (Kd.int .u64) 22 w' w0.heap.size (fun k_ => ((P0_ k_ ∨ P1_ k_) ∨ w.heap.size ≤ k_) ∧ some k_ ≠ ((.slice Ao13 l1.length co13) : Value).ownBlock ∧ some k_ ≠ ((.slice Ao52 x14_44.length co52) : Value).ownBlock) (.slice Ao12 l0.length co12) l0) ∧ Aside0 (Kd.R (Kd.int .u64) 22 w' w0.heap.size (fun k_ => ((P0_ k_ ∨ P1_ k_) ∨ w.heap.size ≤ k_) ∧ some k_ ≠ ((.slice Ao12 l0.length co12) : Value).ownBlock ∧ some k_ ≠ ((.slice Ao52 x14_44.length co52) : Value).ownBlock) (.slice Ao13 l1.length co13) l1) ∧ Aside0 (Kd.R (Kd.int .u64) 22 w' w0.heap.size (fun k_ => ((P0_ k_ ∨ P1_ k_) ∨ w.heap.size ≤ k_) ∧ some k_ ≠ ((.slice Ao12 l0.length co12) : Value).ownBlock ∧ some k_ ≠ ((.slice Ao13 l1.length co13) : Value).ownBlock) (.slice Ao52 x14_44.length co52) x14_44) ∧ Aside0 (Kept w w' (fun k_ => P0_ k_ ∨ P1_ k_)) ∧ Aside0 (Below w0.heap.size w0 w'))
             case atStart => exact ⟨(0), (wrap64 ((x14_44.length : Int) - 1)), (by first | rfl | (simp; done) | (simp [*]; done)), (by first | rfl | (simp; done) | (simp [*]; done)), H', ⟨Nat.le_refl _⟩, ⟨by (with_reducible repeat (first | apply Kd.R_alloc | apply Kd.R_drewN | apply Kd.R_drew)); exact HO_0.out⟩, ⟨by (with_reducible repeat (first | apply Kd.R_alloc | apply Kd.R_drewN | apply Kd.R_drew)); exact HO_1.out⟩, ⟨by (with_reducible repeat (first | apply Kd.R_alloc | apply Kd.R_drewN | apply Kd.R_drew)); exact HO_14.out⟩, ⟨by repeat (first | (with_reducible first | exact HK.out | apply Kept.alloc | apply Kept.drewN | apply Kept.drew) | exact HK.out)⟩, ⟨by repeat (first | (with_reducible first | exact HB.out | apply below_alloc | apply pw_below_drewN | apply below_drew1) | exact HB.out)⟩⟩
             case round =>
              clear H'
              try clear c1
              try clear p1
              try clear c2
              try clear p2
              try clear q2
              try clear hx2
              try clear qi2
              try clear c3
              try clear c4
              try clear c5
              try clear c5b0
              try clear c5b1
              try clear c5b2
              try clear p6
              try clear c15
              try clear c15b0
              try clear c22
              try clear c22b0
              try clear c29
              try clear p29
              try clear q29
              try clear hx29
              try clear qi29
              try clear c37
              try clear c37b0
              try clear c37b1
              try clear c38
              try clear c38b0
              try clear c38b1
              try clear c41
              try clear c41b0
              try clear c42
              try clear c42b0
              try clear c42b1
              try clear c43
              try clear c43b0
              try clear c44
              try clear c44b0
              try clear c44b1
              try clear c45
              try clear c46
              try clear hx292_0
              try clear p1
              try clear p2
              try clear p29
              try clear p292
              try clear p6
              try clear q2
              try clear q29
              try clear q292
              obtain ⟨x18_6, x19_6, rfl, rfl, HA, HK6, HO_0, HO_1, HO_14, HK, HB⟩ := hrel
              cases gk with
              | zero => exact absurd HA.out (by simp [numeralref13_Nearest.l1])
              | succ k6 =>
               have H := HA.out
               clear HA
               simp only [numeralref13_Nearest.l1] at H
               by_cases c53 : x19_6 ≥ 0
               ·rw [if_pos c53] at H
                have c53b0 : decide (0 ≤ x19_6) = true := decide_eq_true c53
                clear c53
                by_cases c54 : 0 ≤ x19_6
                ·rw [if_pos c54] at H
                 have c54b0 : decide (0 ≤ x19_6) = true := decide_eq_true c54
                 clear c54
                 by_cases c55 : x19_6 < (x14_44.length : Int)
                 ·rw [if_pos c55] at H
                  have c55b0 : decide (x19_6 < (x14_44.length : Int)) = true := decide_eq_true c55
                  clear c55
                  obtain ⟨ji56, hji56⟩ : ∃ j_ : Int, (Go.bits .or .u64 (IntKind.u64.wrap (x18_6 * 4294967296)) (rd x14_44 x19_6)) = j_ := ⟨_, rfl⟩
                  replace H : (numeralref13_Nearest.l1 k6 l0 l1 a2 x11_1 x14_44 ji56 (wrap64 (x19_6 - 1))) = some (r1, r2, r3, r4) := by first | (rw [hji56] at H; exact H) | (simp only [hji56] at H ⊢; exact H)
                  have H' := Aside0.mk H
                  clear H
                  have p299 : 0 ≤ (x19_6 : Int) := of_decide_eq_true (by first | (with_reducible assumption) | assumption)
                  have q299 : x19_6 < (x14_44.length : Int) := of_decide_eq_true (by first | (with_reducible assumption) | assumption)
                  obtain ⟨ad299, e299, hx299_0⟩ := Kd.at_int (Kd.R_reads' HO_14.out).2.2 x19_6 p299 q299
                  cases e299
                  replace p299 := eq_true p299
                  replace q299 := eq_true q299
                  go_wp2
                  go_roundg k6
                  case measure => have := HK1.out; have := HJ13.out; have := HJ28.out; have := HJ39.out; have := HJ44.out; have := HK6.out; omega
                  case rel => exact ⟨(ji56), (wrap64 (x19_6 - 1)), (by first | rfl | (simp; done) | (simp only [← hji56] <;> (first | rfl | simp)) | (simp [*]; done)), (by first | rfl | (simp; done) | (simp [*]; done)), H', ⟨by have := HK1.out; have := HJ13.out; have := HJ28.out; have := HJ39.out; have := HJ44.out; have := HK6.out; omega⟩, ⟨by (with_reducible repeat (first | apply Kd.R_alloc | apply Kd.R_drewN | apply Kd.R_drew)); exact HO_0.out⟩, ⟨by (with_reducible repeat (first | apply Kd.R_alloc | apply Kd.R_drewN | apply Kd.R_drew)); exact HO_1.out⟩, ⟨by (with_reducible repeat (first | apply Kd.R_alloc | apply Kd.R_drewN | apply Kd.R_drew)); exact HO_14.out⟩, ⟨by repeat (first | (with_reducible first | exact HK.out | apply Kept.alloc | apply Kept.drewN | apply Kept.drew) | exact HK.out)⟩, ⟨by repeat (first | (with_reducible first | exact HB.out | apply below_alloc | apply pw_below_drewN | apply below_drew1) | exact HB.out)⟩⟩
                 ·rw [if_neg c55] at H
                  exact absurd H (by simp)
                ·rw [if_neg c54] at H
                 exact absurd H (by simp)
               ·rw [if_neg c53] at H
                have c53b0 : decide (0 ≤ x19_6) = false := decide_eq_false c53
                clear c53
                by_cases c57 : x18_6 = 0
                ·rw [if_pos c57] at H
                 have c57b0 : (x18_6 == 0) = true := beq_iff_eq.mpr c57
                 have c57b1 : (x18_6 != 0) = false := bne_eq_false_iff_eq.mpr c57
                 clear c57
                 simp only [Option.some.injEq, Prod.mk.injEq] at H
                 obtain ⟨rfl, rfl, rfl, rfl⟩ := H
                 go_wp2
                 go_ret2
                 exact ⟨by first | rfl | (simp [errW_none, errW_some] <;> rfl) | (simp only [← hji11]; first | rfl | (simp [errW_none, errW_some] <;> rfl)) | (simp [*, errW_none, errW_some] <;> rfl), by (with_reducible repeat (first | apply Kd.R_alloc | apply Kd.R_drewN | apply Kd.R_drew)); exact Kd.R_mono HO_0.out (fun _ hk => hk.1), by (with_reducible repeat (first | apply Kd.R_alloc | apply Kd.R_drewN | apply Kd.R_drew)); exact Kd.R_mono HO_1.out (fun _ hk => hk.1), by repeat (first | (with_reducible first | exact HB.out | apply below_alloc | apply pw_below_drewN | apply below_drew1) | exact HB.out), by repeat (first | (with_reducible first | exact HK.out | apply Kept.alloc | apply Kept.drewN | apply Kept.drew) | exact HK.out)⟩
                ·rw [if_neg c57] at H
                 have c57b0 : (x18_6 == 0) = false := beq_eq_false_iff_ne.mpr c57
                 have c57b1 : (x18_6 != 0) = true := bne_iff_ne.mpr c57
                 replace H := Option.bind_eq_some_iff.mp H
                 obtain ⟨⟨t301, t302⟩, A580, H⟩ := H
                 replace H : (if t302 = 0 then (some (t301, false, l0, l1)) else ((numeralref11_Inf.f a2).bind fun t303 => (some (t303, true, l0, l1)))) = some (r1, r2, r3, r4) := H
                 have A58 := Aside0.mk A580
                 clear A580
                 by_cases c59 : t302 = 0
                 ·rw [if_pos c59] at H
                  have c59b0 : (t302 == 0) = true := beq_iff_eq.mpr c59
                  have c59b1 : (t302 != 0) = false := bne_eq_false_iff_eq.mpr c59
                  clear c59
                  simp only [Option.some.injEq, Prod.mk.injEq] at H
                  obtain ⟨rfl, rfl, rfl, rfl⟩ := H
                  go_wp2_with (first | ((with_reducible refine gate_dst (N := 20) rfl ?_); refine box_event ?hg (N := 20) ?hd (cs := #[.bool false, .int .i64 0, .int .u64 0, .int .i64 0]) (t := 46) ?hr ?_; (case hd => rfl); (case hg => rfl); (case hr => first | (go_simp; done) | (go_simp; rfl)); intro gb300 hg w60 hbox hb; have n0_ := Aside0.mk (Kd.R_below (by (with_reducible repeat (first | apply Kd.R_alloc | apply Kd.R_drewN | apply Kd.R_drew)); exact HO_0.out) hb); have n1_ := Aside0.mk (Kd.R_below (by (with_reducible repeat (first | apply Kd.R_alloc | apply Kd.R_drewN | apply Kd.R_drew)); exact HO_1.out) hb); have n2_ := Aside0.mk (Kd.R_below (by (with_reducible repeat (first | apply Kd.R_alloc | apply Kd.R_drewN | apply Kd.R_drew)); exact HO_14.out) hb); have n3_ := Aside0.mk (Kept.below (S := (fun k_ => P0_ k_ ∨ P1_ k_)) (by repeat (first | (with_reducible first | exact HK.out | apply Kept.alloc | apply Kept.drewN | apply Kept.drew) | exact HK.out)) hb); have n4_ := Aside0.mk (below_step (by repeat (first | (with_reducible first | exact HB.out | apply below_alloc | apply pw_below_drewN | apply below_drew1) | exact HB.out)) hb); have n5_ := Aside0.mk (hbox); have n6_ := Aside0.mk ((by rw [hg]; exact (by first | exact HK.out.1 | exact (show Kept w _ (fun k_ => P0_ k_ ∨ P1_ k_) from by repeat (first | (with_reducible first | exact HK.out | apply Kept.alloc | apply Kept.drewN | apply Kept.drew) | exact HK.out)).1) : w.heap.size ≤ gb300)); have n7_ := Aside0.mk ((by rw [hg]; exact (below_size (by repeat (first | (with_reducible first | exact HB.out | apply below_alloc | apply pw_below_drewN | apply below_drew1) | exact HB.out))) : w0.heap.size ≤ gb300)); clear HO_0; clear HO_1; clear HO_14; clear HK; clear HB; have HO_0 := n0_; have HO_1 := n1_; have HO_14 := n2_; have HK := n3_; have HB := n4_; have BK300 := n5_; have GW300 := n6_; have GE300 := n7_; clear n0_ n1_ n2_ n3_ n4_ n5_ n6_ n7_; clear hb hbox hg; have hcz61_0 : w60.cell? ⟨gb300, 0, none⟩ = some (.bool false) := (blk_cell BK300.out 0).trans rfl; have hcz61_1 : w60.cell? ⟨gb300, 1, none⟩ = some (.int .i64 0) := (blk_cell BK300.out 1).trans rfl; have hcz61_2 : w60.cell? ⟨gb300, 2, none⟩ = some (.int .u64 0) := (blk_cell BK300.out 2).trans rfl; have hcz61_3 : w60.cell? ⟨gb300, 3, none⟩ = some (.int .i64 0) := (blk_cell BK300.out 3).trans rfl; have hfz61_0 := blk_frozen BK300.out 0; have hfz61_1 := blk_frozen BK300.out 1; have hfz61_2 := blk_frozen BK300.out 2; have hfz61_3 := blk_frozen BK300.out 3) | ((with_reducible refine gate_callee (f := 46) rfl ?_); refine goesL_ (some 118) rfl rfl Tryd.func46 (by kernel_rfl) rfl #[.agg #[.bool false, .int .i64 2, .int .u64 x18_6, .int .i64 x11_1], .int .i64 a2] rfl (by (try simp only [List.map_toArray, List.map_cons, List.map_nil]); first | done | rfl | (simp only [List.length_drop, List.length_take]; rfl)) ?_; (with_reducible refine (numeralref11_Pack.calls k6 false 2 x18_6 x11_1 a2 t301 t302 _ A58.out).mono ?_); rintro e w62 ⟨rfl, hb⟩; refine ⟨_, rfl, ?_⟩; have n0_ := Aside0.mk (Kd.R_below (by (with_reducible repeat (first | apply Kd.R_alloc | apply Kd.R_drewN | apply Kd.R_drew)); exact (Kd.R_mono (Kd.R_far (p := ⟨gb300, 3, none⟩) (Kd.R_far (p := ⟨gb300, 2, none⟩) (Kd.R_far (p := ⟨gb300, 1, none⟩) (Kd.R_far (p := ⟨gb300, 0, none⟩) (Kd.R_types HO_0.out BK300.out (by decide)) (fun _ hk => hk.2) (.bool false)) (fun _ hk => hk.2) (.int .i64 2)) (fun _ hk => hk.2) (.int .u64 x18_6)) (fun _ hk => hk.2) (.int .i64 x11_1)) (fun _ h_ => h_.1))) hb); have n1_ := Aside0.mk (Kd.R_below (by (with_reducible repeat (first | apply Kd.R_alloc | apply Kd.R_drewN | apply Kd.R_drew)); exact (Kd.R_mono (Kd.R_far (p := ⟨gb300, 3, none⟩) (Kd.R_far (p := ⟨gb300, 2, none⟩) (Kd.R_far (p := ⟨gb300, 1, none⟩) (Kd.R_far (p := ⟨gb300, 0, none⟩) (Kd.R_types HO_1.out BK300.out (by decide)) (fun _ hk => hk.2) (.bool false)) (fun _ hk => hk.2) (.int .i64 2)) (fun _ hk => hk.2) (.int .u64 x18_6)) (fun _ hk => hk.2) (.int .i64 x11_1)) (fun _ h_ => h_.1))) hb); have n2_ := Aside0.mk (Kd.R_below (by (with_reducible repeat (first | apply Kd.R_alloc | apply Kd.R_drewN | apply Kd.R_drew)); exact (Kd.R_mono (Kd.R_far (p := ⟨gb300, 3, none⟩) (Kd.R_far (p := ⟨gb300, 2, none⟩) (Kd.R_far (p := ⟨gb300, 1, none⟩) (Kd.R_far (p := ⟨gb300, 0, none⟩) (Kd.R_types HO_14.out BK300.out (by decide)) (fun _ hk => hk.2) (.bool false)) (fun _ hk => hk.2) (.int .i64 2)) (fun _ hk => hk.2) (.int .u64 x18_6)) (fun _ hk => hk.2) (.int .i64 x11_1)) (fun _ h_ => h_.1))) hb); have n3_ := Aside0.mk (blk_below (g := gb300) (o := .cells #[.bool false, .int .i64 2, .int .u64 x18_6, .int .i64 x11_1] 46 (0, 0)) (by (with_reducible repeat (first | refine blk_drewN ?_ _ | refine blk_drew ?_ | refine blk_alloc ?_ _)); refine blk_put (cs := #[.bool false, .int .i64 2, .int .u64 x18_6, .int .i64 0]) ?_ 3 _ rfl; (with_reducible repeat (first | refine blk_drewN ?_ _ | refine blk_drew ?_ | refine blk_alloc ?_ _)); refine blk_put (cs := #[.bool false, .int .i64 2, .int .u64 0, .int .i64 0]) ?_ 2 _ rfl; (with_reducible repeat (first | refine blk_drewN ?_ _ | refine blk_drew ?_ | refine blk_alloc ?_ _)); refine blk_put (cs := #[.bool false, .int .i64 0, .int .u64 0, .int .i64 0]) ?_ 1 _ rfl; (with_reducible repeat (first | refine blk_drewN ?_ _ | refine blk_drew ?_ | refine blk_alloc ?_ _)); refine blk_put (cs := #[.bool false, .int .i64 0, .int .u64 0, .int .i64 0]) ?_ 0 _ rfl; (with_reducible repeat (first | refine blk_drewN ?_ _ | refine blk_drew ?_ | refine blk_alloc ?_ _)); exact BK300.out) hb); have n4_ := Aside0.mk (Kept.below (S := (fun k_ => P0_ k_ ∨ P1_ k_)) (by repeat (first | (with_reducible first | exact HK.out | apply Kept.alloc | apply Kept.drewN | apply Kept.drew | refine Kept.setCell ?_ (.inr GW300.out) _) | exact HK.out)) hb); have n5_ := Aside0.mk (below_step (by repeat (first | (with_reducible first | exact HB.out | apply below_alloc | apply pw_below_drewN | apply below_drew1 | refine below_set ?_ GE300.out) | exact HB.out)) hb); clear HO_0; clear HO_1; clear HO_14; clear BK300; clear HK; clear HB; have HO_0 := n0_; have HO_1 := n1_; have HO_14 := n2_; have BK300 := n3_; have HK := n4_; have HB := n5_; clear n0_ n1_ n2_ n3_ n4_ n5_; (try clear hb); (try clear hb2); (try clear hk); (try clear hi)))
                  go_ret2
                  exact ⟨by first | rfl | (simp [errW_none, errW_some] <;> rfl) | (simp only [← hji11]; first | rfl | (simp [errW_none, errW_some] <;> rfl)) | (simp [*, errW_none, errW_some] <;> rfl), by (with_reducible repeat (first | apply Kd.R_alloc | apply Kd.R_drewN | apply Kd.R_drew)); exact Kd.R_mono HO_0.out (fun _ hk => hk.1), by (with_reducible repeat (first | apply Kd.R_alloc | apply Kd.R_drewN | apply Kd.R_drew)); exact Kd.R_mono HO_1.out (fun _ hk => hk.1), by repeat (first | (with_reducible first | exact HB.out | apply below_alloc | apply pw_below_drewN | apply below_drew1 | refine below_set ?_ GE300.out) | exact HB.out), by repeat (first | (with_reducible first | exact HK.out | apply Kept.alloc | apply Kept.drewN | apply Kept.drew | refine Kept.setCell ?_ (.inr GW300.out) _) | exact HK.out)⟩
                 ·rw [if_neg c59] at H
                  have c59b0 : (t302 == 0) = false := beq_eq_false_iff_ne.mpr c59
                  have c59b1 : (t302 != 0) = true := bne_iff_ne.mpr c59
                  replace H := Option.bind_eq_some_iff.mp H
                  obtain ⟨t303, A630, H⟩ := H
                  replace H : (some (t303, true, l0, l1)) = some (r1, r2, r3, r4) := H
                  have A63 := Aside0.mk A630
                  clear A630
                  simp only [Option.some.injEq, Prod.mk.injEq] at H
                  obtain ⟨rfl, rfl, rfl, rfl⟩ := H
                  go_wp2_with (first | ((with_reducible refine gate_dst (N := 20) rfl ?_); refine box_event ?hg (N := 20) ?hd (cs := #[.bool false, .int .i64 0, .int .u64 0, .int .i64 0]) (t := 46) ?hr ?_; (case hd => rfl); (case hg => rfl); (case hr => first | (go_simp; done) | (go_simp; rfl)); intro gb300 hg w64 hbox hb; have n0_ := Aside0.mk (Kd.R_below (by (with_reducible repeat (first | apply Kd.R_alloc | apply Kd.R_drewN | apply Kd.R_drew)); exact HO_0.out) hb); have n1_ := Aside0.mk (Kd.R_below (by (with_reducible repeat (first | apply Kd.R_alloc | apply Kd.R_drewN | apply Kd.R_drew)); exact HO_1.out) hb); have n2_ := Aside0.mk (Kd.R_below (by (with_reducible repeat (first | apply Kd.R_alloc | apply Kd.R_drewN | apply Kd.R_drew)); exact HO_14.out) hb); have n3_ := Aside0.mk (Kept.below (S := (fun k_ => P0_ k_ ∨ P1_ k_)) (by repeat (first | (with_reducible first | exact HK.out | apply Kept.alloc | apply Kept.drewN | apply Kept.drew) | exact HK.out)) hb); have n4_ := Aside0.mk (below_step (by repeat (first | (with_reducible first | exact HB.out | apply below_alloc | apply pw_below_drewN | apply below_drew1) | exact HB.out)) hb); have n5_ := Aside0.mk (hbox); have n6_ := Aside0.mk ((by rw [hg]; exact (by first | exact HK.out.1 | exact (show Kept w _ (fun k_ => P0_ k_ ∨ P1_ k_) from by repeat (first | (with_reducible first | exact HK.out | apply Kept.alloc | apply Kept.drewN | apply Kept.drew) | exact HK.out)).1) : w.heap.size ≤ gb300)); have n7_ := Aside0.mk ((by rw [hg]; exact (below_size (by repeat (first | (with_reducible first | exact HB.out | apply below_alloc | apply pw_below_drewN | apply below_drew1) | exact HB.out))) : w0.heap.size ≤ gb300)); clear HO_0; clear HO_1; clear HO_14; clear HK; clear HB; have HO_0 := n0_; have HO_1 := n1_; have HO_14 := n2_; have HK := n3_; have HB := n4_; have BK300 := n5_; have GW300 := n6_; have GE300 := n7_; clear n0_ n1_ n2_ n3_ n4_ n5_ n6_ n7_; clear hb hbox hg; have hcz65_0 : w64.cell? ⟨gb300, 0, none⟩ = some (.bool false) := (blk_cell BK300.out 0).trans rfl; have hcz65_1 : w64.cell? ⟨gb300, 1, none⟩ = some (.int .i64 0) := (blk_cell BK300.out 1).trans rfl; have hcz65_2 : w64.cell? ⟨gb300, 2, none⟩ = some (.int .u64 0) := (blk_cell BK300.out 2).trans rfl; have hcz65_3 : w64.cell? ⟨gb300, 3, none⟩ = some (.int .i64 0) := (blk_cell BK300.out 3).trans rfl; have hfz65_0 := blk_frozen BK300.out 0; have hfz65_1 := blk_frozen BK300.out 1; have hfz65_2 := blk_frozen BK300.out 2; have hfz65_3 := blk_frozen BK300.out 3) | ((with_reducible refine gate_callee (f := 46) rfl ?_); refine goesL_ (some 118) rfl rfl Tryd.func46 (by kernel_rfl) rfl #[.agg #[.bool false, .int .i64 2, .int .u64 x18_6, .int .i64 x11_1], .int .i64 a2] rfl (by (try simp only [List.map_toArray, List.map_cons, List.map_nil]); first | done | rfl | (simp only [List.length_drop, List.length_take]; rfl)) ?_; (with_reducible refine (numeralref11_Pack.calls k6 false 2 x18_6 x11_1 a2 t301 t302 _ A58.out).mono ?_); rintro e w66 ⟨rfl, hb⟩; refine ⟨_, rfl, ?_⟩; have n0_ := Aside0.mk (Kd.R_below (by (with_reducible repeat (first | apply Kd.R_alloc | apply Kd.R_drewN | apply Kd.R_drew)); exact (Kd.R_mono (Kd.R_far (p := ⟨gb300, 3, none⟩) (Kd.R_far (p := ⟨gb300, 2, none⟩) (Kd.R_far (p := ⟨gb300, 1, none⟩) (Kd.R_far (p := ⟨gb300, 0, none⟩) (Kd.R_types HO_0.out BK300.out (by decide)) (fun _ hk => hk.2) (.bool false)) (fun _ hk => hk.2) (.int .i64 2)) (fun _ hk => hk.2) (.int .u64 x18_6)) (fun _ hk => hk.2) (.int .i64 x11_1)) (fun _ h_ => h_.1))) hb); have n1_ := Aside0.mk (Kd.R_below (by (with_reducible repeat (first | apply Kd.R_alloc | apply Kd.R_drewN | apply Kd.R_drew)); exact (Kd.R_mono (Kd.R_far (p := ⟨gb300, 3, none⟩) (Kd.R_far (p := ⟨gb300, 2, none⟩) (Kd.R_far (p := ⟨gb300, 1, none⟩) (Kd.R_far (p := ⟨gb300, 0, none⟩) (Kd.R_types HO_1.out BK300.out (by decide)) (fun _ hk => hk.2) (.bool false)) (fun _ hk => hk.2) (.int .i64 2)) (fun _ hk => hk.2) (.int .u64 x18_6)) (fun _ hk => hk.2) (.int .i64 x11_1)) (fun _ h_ => h_.1))) hb); have n2_ := Aside0.mk (Kd.R_below (by (with_reducible repeat (first | apply Kd.R_alloc | apply Kd.R_drewN | apply Kd.R_drew)); exact (Kd.R_mono (Kd.R_far (p := ⟨gb300, 3, none⟩) (Kd.R_far (p := ⟨gb300, 2, none⟩) (Kd.R_far (p := ⟨gb300, 1, none⟩) (Kd.R_far (p := ⟨gb300, 0, none⟩) (Kd.R_types HO_14.out BK300.out (by decide)) (fun _ hk => hk.2) (.bool false)) (fun _ hk => hk.2) (.int .i64 2)) (fun _ hk => hk.2) (.int .u64 x18_6)) (fun _ hk => hk.2) (.int .i64 x11_1)) (fun _ h_ => h_.1))) hb); have n3_ := Aside0.mk (blk_below (g := gb300) (o := .cells #[.bool false, .int .i64 2, .int .u64 x18_6, .int .i64 x11_1] 46 (0, 0)) (by (with_reducible repeat (first | refine blk_drewN ?_ _ | refine blk_drew ?_ | refine blk_alloc ?_ _)); refine blk_put (cs := #[.bool false, .int .i64 2, .int .u64 x18_6, .int .i64 0]) ?_ 3 _ rfl; (with_reducible repeat (first | refine blk_drewN ?_ _ | refine blk_drew ?_ | refine blk_alloc ?_ _)); refine blk_put (cs := #[.bool false, .int .i64 2, .int .u64 0, .int .i64 0]) ?_ 2 _ rfl; (with_reducible repeat (first | refine blk_drewN ?_ _ | refine blk_drew ?_ | refine blk_alloc ?_ _)); refine blk_put (cs := #[.bool false, .int .i64 0, .int .u64 0, .int .i64 0]) ?_ 1 _ rfl; (with_reducible repeat (first | refine blk_drewN ?_ _ | refine blk_drew ?_ | refine blk_alloc ?_ _)); refine blk_put (cs := #[.bool false, .int .i64 0, .int .u64 0, .int .i64 0]) ?_ 0 _ rfl; (with_reducible repeat (first | refine blk_drewN ?_ _ | refine blk_drew ?_ | refine blk_alloc ?_ _)); exact BK300.out) hb); have n4_ := Aside0.mk (Kept.below (S := (fun k_ => P0_ k_ ∨ P1_ k_)) (by repeat (first | (with_reducible first | exact HK.out | apply Kept.alloc | apply Kept.drewN | apply Kept.drew | refine Kept.setCell ?_ (.inr GW300.out) _) | exact HK.out)) hb); have n5_ := Aside0.mk (below_step (by repeat (first | (with_reducible first | exact HB.out | apply below_alloc | apply pw_below_drewN | apply below_drew1 | refine below_set ?_ GE300.out) | exact HB.out)) hb); clear HO_0; clear HO_1; clear HO_14; clear BK300; clear HK; clear HB; have HO_0 := n0_; have HO_1 := n1_; have HO_14 := n2_; have BK300 := n3_; have HK := n4_; have HB := n5_; clear n0_ n1_ n2_ n3_ n4_ n5_; (try clear hb); (try clear hb2); (try clear hk); (try clear hi)) | ((with_reducible refine gate_callee (f := 47) rfl ?_); refine goesL_ (some 124) rfl rfl Tryd.func47 (by kernel_rfl) rfl #[.int .i64 a2] rfl (by (try simp only [List.map_toArray, List.map_cons, List.map_nil]); first | done | rfl | (simp only [List.length_drop, List.length_take]; rfl)) ?_; (with_reducible refine (numeralref11_Inf.calls a2 t303 _ A63.out).mono ?_); rintro e w' ⟨rfl, ⟨nd, rfl⟩⟩; refine ⟨_, rfl, ?_⟩))
                  go_ret2
                  exact ⟨by first | rfl | (simp [errW_none, errW_some] <;> rfl) | (simp only [← hji11]; first | rfl | (simp [errW_none, errW_some] <;> rfl)) | (simp [*, errW_none, errW_some] <;> rfl), by (with_reducible repeat (first | apply Kd.R_alloc | apply Kd.R_drewN | apply Kd.R_drew)); exact Kd.R_mono HO_0.out (fun _ hk => hk.1), by (with_reducible repeat (first | apply Kd.R_alloc | apply Kd.R_drewN | apply Kd.R_drew)); exact Kd.R_mono HO_1.out (fun _ hk => hk.1), by repeat (first | (with_reducible first | exact HB.out | apply below_alloc | apply pw_below_drewN | apply below_drew1 | refine below_set ?_ GE300.out) | exact HB.out), by repeat (first | (with_reducible first | exact HK.out | apply Kept.alloc | apply Kept.drewN | apply Kept.drew | refine Kept.setCell ?_ (.inr GW300.out) _) | exact HK.out)⟩

end Go.Proofs.YtbnmchaldolpfaaDoor.Xo
