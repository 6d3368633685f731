-- PRINTED by print.py (a twelfth state) out of the translation. Not trusted: Lean checks it.
import Derived.Test.YtbnmchaldolpfaaDoorXox0
import Derived.Test.YtbnmchaldolpfaaDoorXox1
import Derived.Test.YtbnmchaldolpfaaDoorXox3
namespace Go.Proofs.YtbnmchaldolpfaaDoor.Xo
open Go.RowKit Go.Proofs.YtbnmchaldolpfaaDoorW.PrintWords Go.Proofs.YtbnmchaldolpfaaDoorW.PrintLast Go.Proofs.YtbnmchaldolpfaaDoorW.PrintMore
attribute [local go_sem] max2_int min2_int max_two min_two max_three min_three max_four min_four   -- for this text's walks alone
set_option linter.unusedVariables false
set_option linter.unusedSimpArgs false

/-! ### hexin_Round: function 5 -/
mutual
def hexin_Round.j0 : Nat → Bool → Int → Int → Bool → Int → Int → Int → Int → Int → Option (Int × Option Int)
 | 0, _, _, _, _, _, _, _, _, _ => none
 | k + 1, x0, x1, x2, x3, x4, x12, x14, x15, x16 => (bits_Len64.f x1).bind fun t136 => (if x1 = 0 then (hexin_Round.j1 k x0 x1 (mx (-5000) (mn x2 5000)) x3 x4 x12 x14 x15 x16 (wrap64 ((wrap64 (t136 - 1)) + (mx (-5000) (mn x2 5000)))) (!x3)) else (hexin_Round.j1 k x0 x1 (mx (-5000) (mn x2 5000)) x3 x4 x12 x14 x15 x16 (wrap64 ((wrap64 (t136 - 1)) + (mx (-5000) (mn x2 5000)))) false))
def hexin_Round.j1 : Nat → Bool → Int → Int → Bool → Int → Int → Int → Int → Int → Int → Bool → Option (Int × Option Int)
 | 0, _, _, _, _, _, _, _, _, _, _, _ => none
 | k + 1, x0, x1, x2, x3, x4, x12, x14, x15, x16, x17, x43 => if x43 = true then (some (x12, none)) else (if x1 = 0 then (hexin_Round.j2 k x0 x1 x2 x3 x4 x12 x14 x15 x16 x17 (decide (x2 < x15))) else (hexin_Round.j2 k x0 x1 x2 x3 x4 x12 x14 x15 x16 x17 false))
def hexin_Round.j2 : Nat → Bool → Int → Int → Bool → Int → Int → Int → Int → Int → Int → Bool → Option (Int × Option Int)
 | 0, _, _, _, _, _, _, _, _, _, _, _ => none
 | k + 1, x0, x1, x2, x3, x4, x12, x14, x15, x16, x17, x51 => if x51 = true then (some (x12, none)) else (if x1 = 0 then (some (0, some 1)) else (if x17 > x16 then ((hexin_beyond.f k x0 x4).bind fun bt137 => (some (bt137.1, bt137.2))) else (if x3 = true then (hexin_Round.j3 k x0 x1 x2 x3 x4 x12 (mx (wrap64 ((wrap64 (x17 - x14)) + 1)) x15) (wrap64 ((mx (wrap64 ((wrap64 (x17 - x14)) + 1)) x15) - x2)) (decide ((wrap64 ((mx (wrap64 ((wrap64 (x17 - x14)) + 1)) x15) - x2)) < 1))) else (hexin_Round.j3 k x0 x1 x2 x3 x4 x12 (mx (wrap64 ((wrap64 (x17 - x14)) + 1)) x15) (wrap64 ((mx (wrap64 ((wrap64 (x17 - x14)) + 1)) x15) - x2)) false))))
def hexin_Round.j4 : Nat → Bool → Int → Int → Int → Int → Option (Int × Option Int)
 | 0, _, _, _, _, _ => none
 | k + 1, x0, x1, x2, x4, x12 => if x1 = 0 then (some (x12, none)) else ((bits_Pack.f k x0 2 x1 x2 x4).bind fun bt139 => (if bt139.2.isNone = true then (some (bt139.1, none)) else ((hexin_beyond.f k x0 x4).bind fun bt142 => (some (bt142.1, bt142.2)))))
def hexin_Round.j3 : Nat → Bool → Int → Int → Bool → Int → Int → Int → Int → Bool → Option (Int × Option Int)
 | 0, _, _, _, _, _, _, _, _, _ => none
 | k + 1, x0, x1, x2, x3, x4, x12, x18, x19, x82 => if x82 = true then (some (0, some 1)) else (if x19 > 64 then (some (x12, none)) else (if x19 > 0 then (if x19 < 64 then (if 0 ≤ x19 then (if 0 ≤ (wrap64 (x19 - 1)) then (if (Go.bits .and .u64 x1 (IntKind.u64.wrap ((shl .u64 1 x19) - 1))) > (shl .u64 1 (wrap64 (x19 - 1))) then (hexin_Round.j4 k x0 (IntKind.u64.wrap ((shr .u64 x1 x19) + 1)) x18 x4 x12) else (if (Go.bits .and .u64 x1 (IntKind.u64.wrap ((shl .u64 1 x19) - 1))) = (shl .u64 1 (wrap64 (x19 - 1))) then (if x3 = true then (hexin_Round.j4 k x0 (IntKind.u64.wrap ((shr .u64 x1 x19) + 1)) x18 x4 x12) else (if (Go.bits .and .u64 (shr .u64 x1 x19) 1) = 1 then (hexin_Round.j4 k x0 (IntKind.u64.wrap ((shr .u64 x1 x19) + 1)) x18 x4 x12) else (hexin_Round.j4 k x0 (shr .u64 x1 x19) x18 x4 x12))) else (hexin_Round.j4 k x0 (shr .u64 x1 x19) x18 x4 x12))) else (none)) else (none)) else (if 0 ≤ (wrap64 (x19 - 1)) then (if x1 > (shl .u64 1 (wrap64 (x19 - 1))) then (hexin_Round.j4 k x0 1 x18 x4 x12) else (if x1 = (shl .u64 1 (wrap64 (x19 - 1))) then (if x3 = true then (hexin_Round.j4 k x0 1 x18 x4 x12) else (if (Go.bits .and .u64 0 1) = 1 then (hexin_Round.j4 k x0 1 x18 x4 x12) else (hexin_Round.j4 k x0 0 x18 x4 x12))) else (hexin_Round.j4 k x0 0 x18 x4 x12))) else (none))) else (hexin_Round.j4 k x0 x1 x2 x4 x12)))
end
def hexin_Round.f (k : Nat) (a0 : Bool) (a1 : Int) (a2 : Int) (a3 : Bool) (a4 : Int) : Option (Int × Option Int) := (bits_Zero.f k a0 a4).bind fun bt133 => (if bt133.2.isNone = true then (if a4 = 32 then (hexin_Round.j0 k a0 a1 a2 a3 a4 bt133.1 24 (-149) 127) else (hexin_Round.j0 k a0 a1 a2 a3 a4 bt133.1 53 (-1074) 1023)) else (some (0, some (bt133.2.getD 0))))
set_option maxHeartbeats 8000000 in
set_option maxRecDepth 100000 in
theorem hexin_Round.calls (k : Nat) (a0 : Bool) (a1 : Int) (a2 : Int) (a3 : Bool) (a4 : Int) (r1 : Int) (r2 : Option Int) (w : World) (hl_DB64 : Laid_DB64 w) (h : hexin_Round.f k a0 a1 a2 a3 a4 = some (r1, r2)) :
  Calls Tryd.prog 5 #[.bool a0, .int .u64 a1, .int .i64 a2, .bool a3, .int .i64 a4] w fun e w' => e = .returned (.tuple #[.int .u64 r1, errW r2]) ∧ Below w.heap.size w w' := by
 have hwlu641 : IntKind.u64.wrap 1 = 1 := by first | (unfold wrap64; omega) | decide
 have hu46 := Tryd.underlying46
 have hu27 := Tryd.underlying27
 have hu43 := Tryd.underlying43
 have HB := Aside0.mk (Below.refl w.heap.size w)
 have HL_DB64 := Aside0.mk hl_DB64
 clear hl_DB64
 have H : ((bits_Zero.f k a0 a4).bind fun bt133 => (if bt133.2.isNone = true then (if a4 = 32 then (hexin_Round.j0 k a0 a1 a2 a3 a4 bt133.1 24 (-149) 127) else (hexin_Round.j0 k a0 a1 a2 a3 a4 bt133.1 53 (-1074) 1023)) else (some (0, some (bt133.2.getD 0))))) = some (r1, r2) := h
 clear h
 replace H := Option.bind_eq_some_iff.mp H
 obtain ⟨⟨t133, t134⟩, A60, H⟩ := H
 replace H : (if t134.isNone = true then (if a4 = 32 then (hexin_Round.j0 k a0 a1 a2 a3 a4 t133 24 (-149) 127) else (hexin_Round.j0 k a0 a1 a2 a3 a4 t133 53 (-1074) 1023)) else (some (0, some (t134.getD 0)))) = some (r1, r2) := H
 have A6 := Aside0.mk A60
 clear A60
 rcases t134 with _ | q135
 ·have H1 : (if a4 = 32 then (hexin_Round.j0 k a0 a1 a2 a3 a4 t133 24 (-149) 127) else (hexin_Round.j0 k a0 a1 a2 a3 a4 t133 53 (-1074) 1023)) = some (r1, r2) := by rw [if_pos (show (none : Option Int).isNone = true by rfl)] at H; exact H
  clear H
  have H := H1
  clear H1
  try simp only [errW_none, errW_some]
  have HC7 := Aside0.mk H
  clear H
  go_enter Tryd.func5, Tryd.ntmps5
  go_upto_if 34 with (first | (go_at_call 10; (with_reducible refine (bits_Zero.calls k a0 a4 t133 none _ ?side1 A6.out).mono ?_); (case side1 => exact Laid_DB64.of_below HL_DB64.out (by repeat (first | (with_reducible first | exact HB.out | apply below_alloc | apply pw_below_drewN | apply below_drew1) | exact HB.out))); rintro e w8 ⟨rfl, hb⟩; have n0_ := Aside0.mk (below_step (by repeat (first | (with_reducible first | exact HB.out | apply below_alloc | apply pw_below_drewN | apply below_drew1) | exact HB.out)) hb); clear HB; have HB := n0_; clear n0_; (try clear hb); (try clear hb2); (try clear hk); (try clear hi); (try simp only [errW_none, errW_some])))
  repeat (go_quiet (first | (go_at_call 10; (with_reducible refine (bits_Zero.calls k a0 a4 t133 none _ ?side1 A6.out).mono ?_); (case side1 => exact Laid_DB64.of_below HL_DB64.out (by repeat (first | (with_reducible first | exact HB.out | apply below_alloc | apply pw_below_drewN | apply below_drew1) | exact HB.out))); rintro e w8 ⟨rfl, hb⟩; have n0_ := Aside0.mk (below_step (by repeat (first | (with_reducible first | exact HB.out | apply below_alloc | apply pw_below_drewN | apply below_drew1) | exact HB.out)) hb); clear HB; have HB := n0_; clear n0_; (try clear hb); (try clear hb2); (try clear hk); (try clear hi); (try simp only [errW_none, errW_some]))); go_upto_if 34 with (first | (go_at_call 10; (with_reducible refine (bits_Zero.calls k a0 a4 t133 none _ ?side1 A6.out).mono ?_); (case side1 => exact Laid_DB64.of_below HL_DB64.out (by repeat (first | (with_reducible first | exact HB.out | apply below_alloc | apply pw_below_drewN | apply below_drew1) | exact HB.out))); rintro e w8 ⟨rfl, hb⟩; have n0_ := Aside0.mk (below_step (by repeat (first | (with_reducible first | exact HB.out | apply below_alloc | apply pw_below_drewN | apply below_drew1) | exact HB.out)) hb); clear HB; have HB := n0_; clear n0_; (try clear hb); (try clear hb2); (try clear hk); (try clear hi); (try simp only [errW_none, errW_some]))))
  (try simp only [Act.put, List.setIfInBounds_toArray, List.set_cons_zero, List.set_cons_succ])
  go_cut [14, 15, 16] (fun v14 v15 v16 wc => ∃ (kq : Nat) (x14_6 : Int) (x15_6 : Int) (x16_6 : Int), v14 = .int .i64 x14_6 ∧ v15 = .int .i64 x15_6 ∧ v16 = .int .i64 x16_6 ∧ Aside0 (hexin_Round.j0 kq a0 a1 a2 a3 a4 t133 x14_6 x15_6 x16_6 = some (r1, r2)) ∧ Aside0 (kq ≤ k) ∧ Aside0 (Below w.heap.size w wc))
  case first =>
   have H := HC7.out
   clear HC7
   by_cases c9 : a4 = 32
   ·rw [if_pos c9] at H
    have c9b0 : (a4 == 32) = true := beq_iff_eq.mpr c9
    have c9b1 : (a4 != 32) = false := bne_eq_false_iff_eq.mpr c9
    clear c9
    (first | rw [c9b0] | (simp only [i64_w, i32_w]; rw [c9b0]) | skip)
    have H' := Aside0.mk H
    clear H
    go_wp2
    repeat (go_quiet (fail); try go_wp2)
    go_meet
    case rel => exact ⟨_, (24), ((-149)), (127), (by first | rfl | (simp; done) | (simp [*]; done)), (by first | rfl | (simp; done) | (simp [*]; done)), (by first | rfl | (simp; done) | (simp [*]; done)), H', ⟨by first | omega | exact Nat.le_refl _⟩, ⟨by repeat (first | (with_reducible first | exact HB.out | apply below_alloc | apply pw_below_drewN | apply below_drew1) | exact HB.out)⟩⟩
   ·rw [if_neg c9] at H
    have c9b0 : (a4 == 32) = false := beq_eq_false_iff_ne.mpr c9
    have c9b1 : (a4 != 32) = true := bne_iff_ne.mpr c9
    (first | rw [c9b0] | (simp only [i64_w, i32_w]; rw [c9b0]) | skip)
    have H' := Aside0.mk H
    clear H
    go_wp2
    repeat (go_quiet (fail); try go_wp2)
    go_meet
    case rel => exact ⟨_, (53), ((-1074)), (1023), (by first | rfl | (simp; done) | (simp [*]; done)), (by first | rfl | (simp; done) | (simp [*]; done)), (by first | rfl | (simp; done) | (simp [*]; done)), H', ⟨by first | omega | exact Nat.le_refl _⟩, ⟨by repeat (first | (with_reducible first | exact HB.out | apply below_alloc | apply pw_below_drewN | apply below_drew1) | exact HB.out)⟩⟩
  case rest =>
   clear HC7
   try clear q1
   try clear p2
   try clear c5
   try clear c9
   try clear c9b0
   try clear c9b1
   try clear q135
   obtain ⟨kq, x14_6, x15_6, x16_6, rfl, rfl, rfl, HA, HJ6, HB⟩ := hcut
   cases kq with
   | zero => exact absurd HA.out (by simp [hexin_Round.j0])
   | succ kj6 =>
    have H := HA.out
    clear HA
    simp only [hexin_Round.j0] at H
    obtain ⟨ji10, hji10⟩ : ∃ j_ : Int, (mn a2 5000) = j_ := ⟨_, rfl⟩
    replace H : ((bits_Len64.f a1).bind fun t136 => (if a1 = 0 then (hexin_Round.j1 kj6 a0 a1 (mx (-5000) (ji10)) a3 a4 t133 x14_6 x15_6 x16_6 (wrap64 ((wrap64 (t136 - 1)) + (mx (-5000) (ji10)))) (!a3)) else (hexin_Round.j1 kj6 a0 a1 (mx (-5000) (ji10)) a3 a4 t133 x14_6 x15_6 x16_6 (wrap64 ((wrap64 (t136 - 1)) + (mx (-5000) (ji10)))) false))) = some (r1, r2) := by first | (rw [hji10] at H; exact H) | (simp only [hji10] at H ⊢; exact H)
    have hji10_ : (if 5000 < a2 then 5000 else a2) = ji10 := hji10
    obtain ⟨ji11, hji11⟩ : ∃ j_ : Int, (mx (-5000) (ji10)) = j_ := ⟨_, rfl⟩
    replace H : ((bits_Len64.f a1).bind fun t136 => (if a1 = 0 then (hexin_Round.j1 kj6 a0 a1 ji11 a3 a4 t133 x14_6 x15_6 x16_6 (wrap64 ((wrap64 (t136 - 1)) + (ji11))) (!a3)) else (hexin_Round.j1 kj6 a0 a1 ji11 a3 a4 t133 x14_6 x15_6 x16_6 (wrap64 ((wrap64 (t136 - 1)) + (ji11))) false))) = some (r1, r2) := by first | (rw [hji11] at H; exact H) | (simp only [hji11] at H ⊢; exact H)
    have hji11_ : (if (-5000) < (ji10) then (ji10) else (-5000)) = ji11 := hji11
    replace H := Option.bind_eq_some_iff.mp H
    obtain ⟨t136, A120, H⟩ := H
    replace H : (if a1 = 0 then (hexin_Round.j1 kj6 a0 a1 ji11 a3 a4 t133 x14_6 x15_6 x16_6 (wrap64 ((wrap64 (t136 - 1)) + (ji11))) (!a3)) else (hexin_Round.j1 kj6 a0 a1 ji11 a3 a4 t133 x14_6 x15_6 x16_6 (wrap64 ((wrap64 (t136 - 1)) + (ji11))) false)) = some (r1, r2) := H
    have A12 := Aside0.mk A120
    clear A120
    have HC13 := Aside0.mk H
    clear H
    go_upto_region 9 with (first | (go_at_call 11; (with_reducible refine (bits_Len64.calls a1 t136 _ A12.out).mono ?_); rintro e w14 ⟨rfl, hb⟩; have n0_ := Aside0.mk (below_step (by repeat (first | (with_reducible first | exact HB.out | apply below_alloc | apply pw_below_drewN | apply below_drew1) | exact HB.out)) hb); clear HB; have HB := n0_; clear n0_; (try clear hb); (try clear hb2); (try clear hk); (try clear hi)))
    repeat (go_quiet (first | (go_at_call 11; (with_reducible refine (bits_Len64.calls a1 t136 _ A12.out).mono ?_); rintro e w14 ⟨rfl, hb⟩; have n0_ := Aside0.mk (below_step (by repeat (first | (with_reducible first | exact HB.out | apply below_alloc | apply pw_below_drewN | apply below_drew1) | exact HB.out)) hb); clear HB; have HB := n0_; clear n0_; (try clear hb); (try clear hb2); (try clear hk); (try clear hi))); go_upto_region 9 with (first | (go_at_call 11; (with_reducible refine (bits_Len64.calls a1 t136 _ A12.out).mono ?_); rintro e w14 ⟨rfl, hb⟩; have n0_ := Aside0.mk (below_step (by repeat (first | (with_reducible first | exact HB.out | apply below_alloc | apply pw_below_drewN | apply below_drew1) | exact HB.out)) hb); clear HB; have HB := n0_; clear n0_; (try clear hb); (try clear hb2); (try clear hk); (try clear hi))))
    (try simp only [Act.put, List.setIfInBounds_toArray, List.set_cons_zero, List.set_cons_succ])
    go_cut [43] (fun v43 wc => ∃ (kq : Nat) (x43_12 : Bool), v43 = .bool x43_12 ∧ Aside0 (hexin_Round.j1 kq a0 a1 ji11 a3 a4 t133 x14_6 x15_6 x16_6 (wrap64 ((wrap64 (t136 - 1)) + (ji11))) x43_12 = some (r1, r2)) ∧ Aside0 (kq ≤ kj6) ∧ Aside0 (Below w.heap.size w wc))
    case first =>
     have H := HC13.out
     clear HC13
     by_cases c15 : a1 = 0
     ·rw [if_pos c15] at H
      have c15b0 : (a1 == 0) = true := beq_iff_eq.mpr c15
      have c15b1 : (a1 != 0) = false := bne_eq_false_iff_eq.mpr c15
      clear c15
      (first | rw [c15b0] | (simp only [i64_w, i32_w]; rw [c15b0]) | skip)
      have H' := Aside0.mk H
      clear H
      go_wp2
      repeat (go_quiet (fail); try go_wp2)
      go_meet
      case rel => exact ⟨_, (!a3), (by first | rfl | (simp; done) | (simp [*]; done)), H', ⟨by have := HJ6.out; first | omega | exact Nat.le_refl _⟩, ⟨by repeat (first | (with_reducible first | exact HB.out | apply below_alloc | apply pw_below_drewN | apply below_drew1) | exact HB.out)⟩⟩
     ·rw [if_neg c15] at H
      have c15b0 : (a1 == 0) = false := beq_eq_false_iff_ne.mpr c15
      have c15b1 : (a1 != 0) = true := bne_iff_ne.mpr c15
      (first | rw [c15b0] | (simp only [i64_w, i32_w]; rw [c15b0]) | skip)
      have H' := Aside0.mk H
      clear H
      go_wp2
      repeat (go_quiet (fail); try go_wp2)
      go_meet
      case rel => exact ⟨_, (false), (by first | rfl | (simp; done) | (simp [*]; done)), H', ⟨by have := HJ6.out; first | omega | exact Nat.le_refl _⟩, ⟨by repeat (first | (with_reducible first | exact HB.out | apply below_alloc | apply pw_below_drewN | apply below_drew1) | exact HB.out)⟩⟩
    case rest =>
     clear HC13
     try clear c1
     try clear q1
     try clear p2
     try clear c5
     try clear p6
     try clear c9
     try clear c9b0
     try clear c9b1
     try clear q13
     try clear c15
     try clear c15b0
     try clear c15b1
     try clear p2
     try clear q1
     try clear q135
     obtain ⟨kq, x43_12, rfl, HA, HJ12, HB⟩ := hcut
     cases kq with
     | zero => exact absurd HA.out (by simp [hexin_Round.j1])
     | succ kj12 =>
      have H := HA.out
      clear HA
      simp only [hexin_Round.j1] at H
      by_cases c16 : x43_12 = true
      ·subst c16
       have H1 : (some (t133, none)) = some (r1, r2) := by rw [if_pos rfl] at H; exact H
       clear H
       have H := H1
       clear H1
       simp only [Option.some.injEq, Prod.mk.injEq] at H
       obtain ⟨rfl, rfl⟩ := H
       go_wp2
       repeat (go_quiet (fail); try go_wp2)
       go_ret2
       exact ⟨by first | rfl | (simp [errW_none, errW_some] <;> rfl) | (simp only [← hji10, ← hji11]; first | rfl | (simp [errW_none, errW_some] <;> rfl)) | (simp [*, errW_none, errW_some] <;> rfl), by repeat (first | (with_reducible first | exact HB.out | apply below_alloc | apply pw_below_drewN | apply below_drew1) | exact HB.out)⟩
      ·replace c16 := Bool.eq_false_iff.mpr c16
       subst c16
       have H1 : (if a1 = 0 then (hexin_Round.j2 kj12 a0 a1 ji11 a3 a4 t133 x14_6 x15_6 x16_6 (wrap64 ((wrap64 (t136 - 1)) + (ji11))) (decide (ji11 < x15_6))) else (hexin_Round.j2 kj12 a0 a1 ji11 a3 a4 t133 x14_6 x15_6 x16_6 (wrap64 ((wrap64 (t136 - 1)) + (ji11))) false)) = some (r1, r2) := by rw [if_neg (show ¬ (false = true) by decide)] at H; exact H
       clear H
       have H := H1
       clear H1
       have HC17 := Aside0.mk H
       clear H
       go_upto_region 11 with (fail)
       repeat (go_quiet (fail); go_upto_region 11 with (fail))
       go_cut [51] (fun v51 wc => ∃ (kq : Nat) (x51_16 : Bool), v51 = .bool x51_16 ∧ Aside0 (hexin_Round.j2 kq a0 a1 ji11 a3 a4 t133 x14_6 x15_6 x16_6 (wrap64 ((wrap64 (t136 - 1)) + (ji11))) x51_16 = some (r1, r2)) ∧ Aside0 (kq ≤ kj12) ∧ Aside0 (Below w.heap.size w wc))
       case first =>
        have H := HC17.out
        clear HC17
        by_cases c18 : a1 = 0
        ·rw [if_pos c18] at H
         have c18b0 : (a1 == 0) = true := beq_iff_eq.mpr c18
         have c18b1 : (a1 != 0) = false := bne_eq_false_iff_eq.mpr c18
         clear c18
         (first | rw [c18b0] | (simp only [i64_w, i32_w]; rw [c18b0]) | skip)
         have H' := Aside0.mk H
         clear H
         go_wp2
         repeat (go_quiet (fail); try go_wp2)
         go_meet
         case rel => exact ⟨_, (decide (ji11 < x15_6)), (by first | rfl | (simp; done) | (simp only [← hji11] <;> (first | rfl | simp)) | (simp [*]; done)), H', ⟨by have := HJ6.out; have := HJ12.out; first | omega | exact Nat.le_refl _⟩, ⟨by repeat (first | (with_reducible first | exact HB.out | apply below_alloc | apply pw_below_drewN | apply below_drew1) | exact HB.out)⟩⟩
        ·rw [if_neg c18] at H
         have c18b0 : (a1 == 0) = false := beq_eq_false_iff_ne.mpr c18
         have c18b1 : (a1 != 0) = true := bne_iff_ne.mpr c18
         (first | rw [c18b0] | (simp only [i64_w, i32_w]; rw [c18b0]) | skip)
         have H' := Aside0.mk H
         clear H
         go_wp2
         repeat (go_quiet (fail); try go_wp2)
         go_meet
         case rel => exact ⟨_, (false), (by first | rfl | (simp; done) | (simp [*]; done)), H', ⟨by have := HJ6.out; have := HJ12.out; first | omega | exact Nat.le_refl _⟩, ⟨by repeat (first | (with_reducible first | exact HB.out | apply below_alloc | apply pw_below_drewN | apply below_drew1) | exact HB.out)⟩⟩
       case rest =>
        clear HC17
        try clear c1
        try clear q1
        try clear p2
        try clear c5
        try clear p6
        try clear c9
        try clear c9b0
        try clear c9b1
        try clear q13
        try clear c15
        try clear c15b0
        try clear c15b1
        try clear c16
        try clear c18
        try clear c18b0
        try clear c18b1
        try clear p2
        try clear p6
        try clear q1
        try clear q13
        try clear q135
        obtain ⟨kq, x51_16, rfl, HA, HJ16, HB⟩ := hcut
        cases kq with
        | zero => exact absurd HA.out (by simp [hexin_Round.j2])
        | succ kj16 =>
         have H := HA.out
         clear HA
         simp only [hexin_Round.j2] at H
         by_cases c19 : x51_16 = true
         ·subst c19
          have H1 : (some (t133, none)) = some (r1, r2) := by rw [if_pos rfl] at H; exact H
          clear H
          have H := H1
          clear H1
          simp only [Option.some.injEq, Prod.mk.injEq] at H
          obtain ⟨rfl, rfl⟩ := H
          go_wp2
          repeat (go_quiet (fail); try go_wp2)
          go_ret2
          exact ⟨by first | rfl | (simp [errW_none, errW_some] <;> rfl) | (simp only [← hji10, ← hji11]; first | rfl | (simp [errW_none, errW_some] <;> rfl)) | (simp [*, errW_none, errW_some] <;> rfl), by repeat (first | (with_reducible first | exact HB.out | apply below_alloc | apply pw_below_drewN | apply below_drew1) | exact HB.out)⟩
         ·replace c19 := Bool.eq_false_iff.mpr c19
          subst c19
          have H1 : (if a1 = 0 then (some (0, some 1)) else (if (wrap64 ((wrap64 (t136 - 1)) + (ji11))) > x16_6 then ((hexin_beyond.f kj16 a0 a4).bind fun bt137 => (some (bt137.1, bt137.2))) else (if a3 = true then (hexin_Round.j3 kj16 a0 a1 ji11 a3 a4 t133 (mx (wrap64 ((wrap64 ((wrap64 ((wrap64 (t136 - 1)) + (ji11))) - x14_6)) + 1)) x15_6) (wrap64 ((mx (wrap64 ((wrap64 ((wrap64 ((wrap64 (t136 - 1)) + (ji11))) - x14_6)) + 1)) x15_6) - ji11)) (decide ((wrap64 ((mx (wrap64 ((wrap64 ((wrap64 ((wrap64 (t136 - 1)) + (ji11))) - x14_6)) + 1)) x15_6) - ji11)) < 1))) else (hexin_Round.j3 kj16 a0 a1 ji11 a3 a4 t133 (mx (wrap64 ((wrap64 ((wrap64 ((wrap64 (t136 - 1)) + (ji11))) - x14_6)) + 1)) x15_6) (wrap64 ((mx (wrap64 ((wrap64 ((wrap64 ((wrap64 (t136 - 1)) + (ji11))) - x14_6)) + 1)) x15_6) - ji11)) false)))) = some (r1, r2) := by rw [if_neg (show ¬ (false = true) by decide)] at H; exact H
          clear H
          have H := H1
          clear H1
          by_cases c20 : a1 = 0
          ·rw [if_pos c20] at H
           have c20b0 : (a1 == 0) = true := beq_iff_eq.mpr c20
           have c20b1 : (a1 != 0) = false := bne_eq_false_iff_eq.mpr c20
           clear c20
           simp only [Option.some.injEq, Prod.mk.injEq] at H
           obtain ⟨rfl, rfl⟩ := H
           go_wp2
           repeat (go_quiet (fail); try go_wp2)
           go_ret2
           exact ⟨by first | rfl | (simp [errW_none, errW_some] <;> rfl) | (simp only [← hji10, ← hji11]; first | rfl | (simp [errW_none, errW_some] <;> rfl)) | (simp [*, errW_none, errW_some] <;> rfl), by repeat (first | (with_reducible first | exact HB.out | apply below_alloc | apply pw_below_drewN | apply below_drew1) | exact HB.out)⟩
          ·rw [if_neg c20] at H
           have c20b0 : (a1 == 0) = false := beq_eq_false_iff_ne.mpr c20
           have c20b1 : (a1 != 0) = true := bne_iff_ne.mpr c20
           by_cases c21 : (wrap64 ((wrap64 (t136 - 1)) + (ji11))) > x16_6
           ·rw [if_pos c21] at H
            have c21b0 : decide (x16_6 < (wrap64 ((wrap64 (t136 - 1)) + (ji11)))) = true := decide_eq_true c21
            clear c21
            replace H := Option.bind_eq_some_iff.mp H
            obtain ⟨⟨t137, t138⟩, A220, H⟩ := H
            replace H : (some (t137, t138)) = some (r1, r2) := H
            have A22 := Aside0.mk A220
            clear A220
            simp only [Option.some.injEq, Prod.mk.injEq] at H
            obtain ⟨rfl, rfl⟩ := H
            go_wp2_with (first | (go_at_call 12; (with_reducible refine (hexin_beyond.calls kj16 a0 a4 t137 t138 _ ?side1 A22.out).mono ?_); (case side1 => exact Laid_DB64.of_below HL_DB64.out (by repeat (first | (with_reducible first | exact HB.out | apply below_alloc | apply pw_below_drewN | apply below_drew1) | exact HB.out))); rintro e w23 ⟨rfl, hb⟩; have n0_ := Aside0.mk (below_step (by repeat (first | (with_reducible first | exact HB.out | apply below_alloc | apply pw_below_drewN | apply below_drew1) | exact HB.out)) hb); clear HB; have HB := n0_; clear n0_; (try clear hb); (try clear hb2); (try clear hk); (try clear hi); (try simp only [errW_none, errW_some])))
            repeat (go_quiet (first | (go_at_call 12; (with_reducible refine (hexin_beyond.calls kj16 a0 a4 t137 t138 _ ?side1 A22.out).mono ?_); (case side1 => exact Laid_DB64.of_below HL_DB64.out (by repeat (first | (with_reducible first | exact HB.out | apply below_alloc | apply pw_below_drewN | apply below_drew1) | exact HB.out))); rintro e w23 ⟨rfl, hb⟩; have n0_ := Aside0.mk (below_step (by repeat (first | (with_reducible first | exact HB.out | apply below_alloc | apply pw_below_drewN | apply below_drew1) | exact HB.out)) hb); clear HB; have HB := n0_; clear n0_; (try clear hb); (try clear hb2); (try clear hk); (try clear hi); (try simp only [errW_none, errW_some]))); try go_wp2_with (first | (go_at_call 12; (with_reducible refine (hexin_beyond.calls kj16 a0 a4 t137 t138 _ ?side1 A22.out).mono ?_); (case side1 => exact Laid_DB64.of_below HL_DB64.out (by repeat (first | (with_reducible first | exact HB.out | apply below_alloc | apply pw_below_drewN | apply below_drew1) | exact HB.out))); rintro e w23 ⟨rfl, hb⟩; have n0_ := Aside0.mk (below_step (by repeat (first | (with_reducible first | exact HB.out | apply below_alloc | apply pw_below_drewN | apply below_drew1) | exact HB.out)) hb); clear HB; have HB := n0_; clear n0_; (try clear hb); (try clear hb2); (try clear hk); (try clear hi); (try simp only [errW_none, errW_some]))))
            go_ret2
            exact ⟨by first | rfl | (simp [errW_none, errW_some] <;> rfl) | (simp only [← hji10, ← hji11]; first | rfl | (simp [errW_none, errW_some] <;> rfl)) | (simp [*, errW_none, errW_some] <;> rfl), by repeat (first | (with_reducible first | exact HB.out | apply below_alloc | apply pw_below_drewN | apply below_drew1) | exact HB.out)⟩
           ·rw [if_neg c21] at H
            have c21b0 : decide (x16_6 < (wrap64 ((wrap64 (t136 - 1)) + (ji11)))) = false := decide_eq_false c21
            clear c21
            obtain ⟨ji24, hji24⟩ : ∃ j_ : Int, (mx (wrap64 ((wrap64 ((wrap64 ((wrap64 (t136 - 1)) + (ji11))) - x14_6)) + 1)) x15_6) = j_ := ⟨_, rfl⟩
            replace H : (if a3 = true then (hexin_Round.j3 kj16 a0 a1 ji11 a3 a4 t133 ji24 (wrap64 ((ji24) - ji11)) (decide ((wrap64 ((ji24) - ji11)) < 1))) else (hexin_Round.j3 kj16 a0 a1 ji11 a3 a4 t133 ji24 (wrap64 ((ji24) - ji11)) false)) = some (r1, r2) := by first | (rw [hji24] at H; exact H) | (simp only [hji24] at H ⊢; exact H)
            have hji24_ : (if (wrap64 ((wrap64 ((wrap64 ((wrap64 (t136 - 1)) + (ji11))) - x14_6)) + 1)) < x15_6 then x15_6 else (wrap64 ((wrap64 ((wrap64 ((wrap64 (t136 - 1)) + (ji11))) - x14_6)) + 1))) = ji24 := hji24
            have HC25 := Aside0.mk H
            clear H
            go_upto_block 1 with (fail)
            repeat (go_quiet (fail); go_upto_block 1 with (fail))
            go_cut [1, 2] (fun v1 v2 wc => ∃ (kq : Nat) (x1_24 : Int) (x2_24 : Int), v1 = .int .u64 x1_24 ∧ v2 = .int .i64 x2_24 ∧ Aside0 (hexin_Round.j4 kq a0 x1_24 x2_24 a4 t133 = some (r1, r2)) ∧ Aside0 (kq ≤ kj16) ∧ Aside0 (Below w.heap.size w wc))
            case first =>
             have H := HC25.out
             clear HC25
             have HC26 := Aside0.mk H
             clear H
             go_upto_region 19 with (fail)
             repeat (go_quiet (fail); go_upto_region 19 with (fail))
             go_cut [82] (fun v82 wc => ∃ (kq : Nat) (x82_25 : Bool), v82 = .bool x82_25 ∧ Aside0 (hexin_Round.j3 kq a0 a1 ji11 a3 a4 t133 ji24 (wrap64 ((ji24) - ji11)) x82_25 = some (r1, r2)) ∧ Aside0 (kq ≤ kj16) ∧ Aside0 (Below w.heap.size w wc))
             case first =>
              have H := HC26.out
              clear HC26
              by_cases c27 : a3 = true
              ·subst c27
               have H1 : (hexin_Round.j3 kj16 a0 a1 ji11 true a4 t133 ji24 (wrap64 ((ji24) - ji11)) (decide ((wrap64 ((ji24) - ji11)) < 1))) = some (r1, r2) := by rw [if_pos rfl] at H; exact H
               clear H
               have H := H1
               clear H1
               have H' := Aside0.mk H
               clear H
               go_wp2
               repeat (go_quiet (fail); try go_wp2)
               go_meet
               case rel => exact ⟨_, (decide ((wrap64 ((ji24) - ji11)) < 1)), (by first | rfl | (simp; done) | (simp only [← hji11, ← hji24] <;> (first | rfl | simp)) | (simp [*]; done)), H', ⟨by have := HJ6.out; have := HJ12.out; have := HJ16.out; first | omega | exact Nat.le_refl _⟩, ⟨by repeat (first | (with_reducible first | exact HB.out | apply below_alloc | apply pw_below_drewN | apply below_drew1) | exact HB.out)⟩⟩
              ·replace c27 := Bool.eq_false_iff.mpr c27
               subst c27
               have H1 : (hexin_Round.j3 kj16 a0 a1 ji11 false a4 t133 ji24 (wrap64 ((ji24) - ji11)) false) = some (r1, r2) := by rw [if_neg (show ¬ (false = true) by decide)] at H; exact H
               clear H
               have H := H1
               clear H1
               have H' := Aside0.mk H
               clear H
               go_wp2
               repeat (go_quiet (fail); try go_wp2)
               go_meet
               case rel => exact ⟨_, (false), (by first | rfl | (simp; done) | (simp [*]; done)), H', ⟨by have := HJ6.out; have := HJ12.out; have := HJ16.out; first | omega | exact Nat.le_refl _⟩, ⟨by repeat (first | (with_reducible first | exact HB.out | apply below_alloc | apply pw_below_drewN | apply below_drew1) | exact HB.out)⟩⟩
             case rest =>
              clear HC26
              try clear c1
              try clear q1
              try clear c2
              try clear p2
              try clear c5
              try clear p6
              try clear c9
              try clear c9b0
              try clear c9b1
              try clear q13
              try clear c15
              try clear c15b0
              try clear c15b1
              try clear c16
              try clear c18
              try clear c18b0
              try clear c18b1
              try clear c19
              try clear c20
              try clear c20b0
              try clear c20b1
              try clear c21
              try clear c21b0
              try clear c27
              try clear p2
              try clear p6
              try clear q1
              try clear q13
              try clear q135
              obtain ⟨kq, x82_25, rfl, HA, HJ25, HB⟩ := hcut
              cases kq with
              | zero => exact absurd HA.out (by simp [hexin_Round.j3])
              | succ kj25 =>
               have H := HA.out
               clear HA
               simp only [hexin_Round.j3] at H
               by_cases c28 : x82_25 = true
               ·subst c28
                have H1 : (some (0, some 1)) = some (r1, r2) := by rw [if_pos rfl] at H; exact H
                clear H
                have H := H1
                clear H1
                simp only [Option.some.injEq, Prod.mk.injEq] at H
                obtain ⟨rfl, rfl⟩ := H
                go_wp2
                repeat (go_quiet (fail); try go_wp2)
                go_ret2
                exact ⟨by first | rfl | (simp [errW_none, errW_some] <;> rfl) | (simp only [← hji10, ← hji11, ← hji24]; first | rfl | (simp [errW_none, errW_some] <;> rfl)) | (simp [*, errW_none, errW_some] <;> rfl), by repeat (first | (with_reducible first | exact HB.out | apply below_alloc | apply pw_below_drewN | apply below_drew1) | exact HB.out)⟩
               ·replace c28 := Bool.eq_false_iff.mpr c28
                subst c28
                have H1 : (if (wrap64 ((ji24) - ji11)) > 64 then (some (t133, none)) else (if (wrap64 ((ji24) - ji11)) > 0 then (if (wrap64 ((ji24) - ji11)) < 64 then (if 0 ≤ (wrap64 ((ji24) - ji11)) then (if 0 ≤ (wrap64 ((wrap64 ((ji24) - ji11)) - 1)) then (if (Go.bits .and .u64 a1 (IntKind.u64.wrap ((shl .u64 1 (wrap64 ((ji24) - ji11))) - 1))) > (shl .u64 1 (wrap64 ((wrap64 ((ji24) - ji11)) - 1))) then (hexin_Round.j4 kj25 a0 (IntKind.u64.wrap ((shr .u64 a1 (wrap64 ((ji24) - ji11))) + 1)) ji24 a4 t133) else (if (Go.bits .and .u64 a1 (IntKind.u64.wrap ((shl .u64 1 (wrap64 ((ji24) - ji11))) - 1))) = (shl .u64 1 (wrap64 ((wrap64 ((ji24) - ji11)) - 1))) then (if a3 = true then (hexin_Round.j4 kj25 a0 (IntKind.u64.wrap ((shr .u64 a1 (wrap64 ((ji24) - ji11))) + 1)) ji24 a4 t133) else (if (Go.bits .and .u64 (shr .u64 a1 (wrap64 ((ji24) - ji11))) 1) = 1 then (hexin_Round.j4 kj25 a0 (IntKind.u64.wrap ((shr .u64 a1 (wrap64 ((ji24) - ji11))) + 1)) ji24 a4 t133) else (hexin_Round.j4 kj25 a0 (shr .u64 a1 (wrap64 ((ji24) - ji11))) ji24 a4 t133))) else (hexin_Round.j4 kj25 a0 (shr .u64 a1 (wrap64 ((ji24) - ji11))) ji24 a4 t133))) else (none)) else (none)) else (if 0 ≤ (wrap64 ((wrap64 ((ji24) - ji11)) - 1)) then (if a1 > (shl .u64 1 (wrap64 ((wrap64 ((ji24) - ji11)) - 1))) then (hexin_Round.j4 kj25 a0 1 ji24 a4 t133) else (if a1 = (shl .u64 1 (wrap64 ((wrap64 ((ji24) - ji11)) - 1))) then (if a3 = true then (hexin_Round.j4 kj25 a0 1 ji24 a4 t133) else (if (Go.bits .and .u64 0 1) = 1 then (hexin_Round.j4 kj25 a0 1 ji24 a4 t133) else (hexin_Round.j4 kj25 a0 0 ji24 a4 t133))) else (hexin_Round.j4 kj25 a0 0 ji24 a4 t133))) else (none))) else (hexin_Round.j4 kj25 a0 a1 ji11 a4 t133))) = some (r1, r2) := by rw [if_neg (show ¬ (false = true) by decide)] at H; exact H
                clear H
                have H := H1
                clear H1
                by_cases c29 : (wrap64 ((ji24) - ji11)) > 64
                ·rw [if_pos c29] at H
                 have c29b0 : decide (64 < (wrap64 ((ji24) - ji11))) = true := decide_eq_true c29
                 clear c29
                 simp only [Option.some.injEq, Prod.mk.injEq] at H
                 obtain ⟨rfl, rfl⟩ := H
                 go_wp2
                 repeat (go_quiet (fail); try go_wp2)
                 go_ret2
                 exact ⟨by first | rfl | (simp [errW_none, errW_some] <;> rfl) | (simp only [← hji10, ← hji11, ← hji24]; first | rfl | (simp [errW_none, errW_some] <;> rfl)) | (simp [*, errW_none, errW_some] <;> rfl), by repeat (first | (with_reducible first | exact HB.out | apply below_alloc | apply pw_below_drewN | apply below_drew1) | exact HB.out)⟩
                ·rw [if_neg c29] at H
                 have c29b0 : decide (64 < (wrap64 ((ji24) - ji11))) = false := decide_eq_false c29
                 clear c29
                 by_cases c30 : (wrap64 ((ji24) - ji11)) > 0
                 ·rw [if_pos c30] at H
                  have c30b0 : decide (0 < (wrap64 ((ji24) - ji11))) = true := decide_eq_true c30
                  clear c30
                  by_cases c31 : (wrap64 ((ji24) - ji11)) < 64
                  ·rw [if_pos c31] at H
                   have c31b0 : decide ((wrap64 ((ji24) - ji11)) < 64) = true := decide_eq_true c31
                   clear c31
                   obtain ⟨ji32, hji32⟩ : ∃ j_ : Int, (wrap64 ((ji24) - ji11)) = j_ := ⟨_, rfl⟩
                   replace H : (if 0 ≤ (ji32) then (if 0 ≤ (wrap64 ((ji32) - 1)) then (if (Go.bits .and .u64 a1 (IntKind.u64.wrap ((shl .u64 1 (ji32)) - 1))) > (shl .u64 1 (wrap64 ((ji32) - 1))) then (hexin_Round.j4 kj25 a0 (IntKind.u64.wrap ((shr .u64 a1 (ji32)) + 1)) ji24 a4 t133) else (if (Go.bits .and .u64 a1 (IntKind.u64.wrap ((shl .u64 1 (ji32)) - 1))) = (shl .u64 1 (wrap64 ((ji32) - 1))) then (if a3 = true then (hexin_Round.j4 kj25 a0 (IntKind.u64.wrap ((shr .u64 a1 (ji32)) + 1)) ji24 a4 t133) else (if (Go.bits .and .u64 (shr .u64 a1 (ji32)) 1) = 1 then (hexin_Round.j4 kj25 a0 (IntKind.u64.wrap ((shr .u64 a1 (ji32)) + 1)) ji24 a4 t133) else (hexin_Round.j4 kj25 a0 (shr .u64 a1 (ji32)) ji24 a4 t133))) else (hexin_Round.j4 kj25 a0 (shr .u64 a1 (ji32)) ji24 a4 t133))) else (none)) else (none)) = some (r1, r2) := by first | (rw [hji32] at H; exact H) | (simp only [hji32] at H ⊢; exact H)
                   (try rw [hji32] at c29b0)
                   (try rw [hji32] at c30b0)
                   (try rw [hji32] at c31b0)
                   have hji32w : (IntKind.i64.wrap ((ji24) - ji11)) = ji32 := (i64_w _).trans hji32
                   by_cases c33 : 0 ≤ (ji32)
                   ·rw [if_pos c33] at H
                    have c33b0 := eq_true c33
                    have c33b1 : decide (0 ≤ (ji32)) = true := decide_eq_true c33
                    clear c33
                    obtain ⟨ji34, hji34⟩ : ∃ j_ : Int, (shr .u64 a1 (ji32)) = j_ := ⟨_, rfl⟩
                    replace H : (if 0 ≤ (wrap64 ((ji32) - 1)) then (if (Go.bits .and .u64 a1 (IntKind.u64.wrap ((shl .u64 1 (ji32)) - 1))) > (shl .u64 1 (wrap64 ((ji32) - 1))) then (hexin_Round.j4 kj25 a0 (IntKind.u64.wrap ((ji34) + 1)) ji24 a4 t133) else (if (Go.bits .and .u64 a1 (IntKind.u64.wrap ((shl .u64 1 (ji32)) - 1))) = (shl .u64 1 (wrap64 ((ji32) - 1))) then (if a3 = true then (hexin_Round.j4 kj25 a0 (IntKind.u64.wrap ((ji34) + 1)) ji24 a4 t133) else (if (Go.bits .and .u64 (ji34) 1) = 1 then (hexin_Round.j4 kj25 a0 (IntKind.u64.wrap ((ji34) + 1)) ji24 a4 t133) else (hexin_Round.j4 kj25 a0 ji34 ji24 a4 t133))) else (hexin_Round.j4 kj25 a0 ji34 ji24 a4 t133))) else (none)) = some (r1, r2) := by first | (rw [hji34] at H; exact H) | (simp only [hji34] at H ⊢; exact H)
                    have hji34_ : (a1 / 2 ^ min (ji32).toNat 64) = ji34 := hji34
                    have hji34z : (ji32) ≤ 64 → (a1 / 2 ^ (ji32).toNat) = ji34 := shr_small hji34
                    have c35b0 := eq_true (of_decide_eq_true (by first | (with_reducible assumption) | assumption) : 0 ≤ (ji32))
                    obtain ⟨ji36, hji36⟩ : ∃ j_ : Int, (shl .u64 1 (ji32)) = j_ := ⟨_, rfl⟩
                    replace H : (if 0 ≤ (wrap64 ((ji32) - 1)) then (if (Go.bits .and .u64 a1 (IntKind.u64.wrap ((ji36) - 1))) > (shl .u64 1 (wrap64 ((ji32) - 1))) then (hexin_Round.j4 kj25 a0 (IntKind.u64.wrap ((ji34) + 1)) ji24 a4 t133) else (if (Go.bits .and .u64 a1 (IntKind.u64.wrap ((ji36) - 1))) = (shl .u64 1 (wrap64 ((ji32) - 1))) then (if a3 = true then (hexin_Round.j4 kj25 a0 (IntKind.u64.wrap ((ji34) + 1)) ji24 a4 t133) else (if (Go.bits .and .u64 (ji34) 1) = 1 then (hexin_Round.j4 kj25 a0 (IntKind.u64.wrap ((ji34) + 1)) ji24 a4 t133) else (hexin_Round.j4 kj25 a0 ji34 ji24 a4 t133))) else (hexin_Round.j4 kj25 a0 ji34 ji24 a4 t133))) else (none)) = some (r1, r2) := by first | (rw [hji36] at H; exact H) | (simp only [hji36] at H ⊢; exact H)
                    have hji36_ : (IntKind.u64.wrap (1 * 2 ^ min (ji32).toNat 64)) = ji36 := hji36
                    have hji36z : (ji32) ≤ 64 → (IntKind.u64.wrap (1 * 2 ^ (ji32).toNat)) = ji36 := shl_small hji36
                    have hji36u : (IntKind.u64.wrap (2 ^ min (ji32).toNat 64)) = ji36 := by have h_ := hji36_; rw [Int.one_mul] at h_; exact h_
                    have hji36v : (ji32) ≤ 64 → (IntKind.u64.wrap (2 ^ (ji32).toNat)) = ji36 := fun hle_ => by have h_ := hji36z hle_; rw [Int.one_mul] at h_; exact h_
                    obtain ⟨ji37, hji37⟩ : ∃ j_ : Int, (Go.bits .and .u64 a1 (IntKind.u64.wrap ((ji36) - 1))) = j_ := ⟨_, rfl⟩
                    replace H : (if 0 ≤ (wrap64 ((ji32) - 1)) then (if (ji37) > (shl .u64 1 (wrap64 ((ji32) - 1))) then (hexin_Round.j4 kj25 a0 (IntKind.u64.wrap ((ji34) + 1)) ji24 a4 t133) else (if (ji37) = (shl .u64 1 (wrap64 ((ji32) - 1))) then (if a3 = true then (hexin_Round.j4 kj25 a0 (IntKind.u64.wrap ((ji34) + 1)) ji24 a4 t133) else (if (Go.bits .and .u64 (ji34) 1) = 1 then (hexin_Round.j4 kj25 a0 (IntKind.u64.wrap ((ji34) + 1)) ji24 a4 t133) else (hexin_Round.j4 kj25 a0 ji34 ji24 a4 t133))) else (hexin_Round.j4 kj25 a0 ji34 ji24 a4 t133))) else (none)) = some (r1, r2) := by first | (rw [hji37] at H; exact H) | (simp only [hji37] at H ⊢; exact H)
                    obtain ⟨ji38, hji38⟩ : ∃ j_ : Int, (wrap64 ((ji32) - 1)) = j_ := ⟨_, rfl⟩
                    replace H : (if 0 ≤ (ji38) then (if (ji37) > (shl .u64 1 (ji38)) then (hexin_Round.j4 kj25 a0 (IntKind.u64.wrap ((ji34) + 1)) ji24 a4 t133) else (if (ji37) = (shl .u64 1 (ji38)) then (if a3 = true then (hexin_Round.j4 kj25 a0 (IntKind.u64.wrap ((ji34) + 1)) ji24 a4 t133) else (if (Go.bits .and .u64 (ji34) 1) = 1 then (hexin_Round.j4 kj25 a0 (IntKind.u64.wrap ((ji34) + 1)) ji24 a4 t133) else (hexin_Round.j4 kj25 a0 ji34 ji24 a4 t133))) else (hexin_Round.j4 kj25 a0 ji34 ji24 a4 t133))) else (none)) = some (r1, r2) := by first | (rw [hji38] at H; exact H) | (simp only [hji38] at H ⊢; exact H)
                    have hji38w : (IntKind.i64.wrap ((ji32) - 1)) = ji38 := (i64_w _).trans hji38
                    by_cases c39 : 0 ≤ (ji38)
                    ·rw [if_pos c39] at H
                     have c39b0 := eq_true c39
                     have c39b1 : decide (0 ≤ (ji38)) = true := decide_eq_true c39
                     clear c39
                     obtain ⟨ji40, hji40⟩ : ∃ j_ : Int, (shl .u64 1 (ji38)) = j_ := ⟨_, rfl⟩
                     replace H : (if (ji37) > (ji40) then (hexin_Round.j4 kj25 a0 (IntKind.u64.wrap ((ji34) + 1)) ji24 a4 t133) else (if (ji37) = (ji40) then (if a3 = true then (hexin_Round.j4 kj25 a0 (IntKind.u64.wrap ((ji34) + 1)) ji24 a4 t133) else (if (Go.bits .and .u64 (ji34) 1) = 1 then (hexin_Round.j4 kj25 a0 (IntKind.u64.wrap ((ji34) + 1)) ji24 a4 t133) else (hexin_Round.j4 kj25 a0 ji34 ji24 a4 t133))) else (hexin_Round.j4 kj25 a0 ji34 ji24 a4 t133))) = some (r1, r2) := by first | (rw [hji40] at H; exact H) | (simp only [hji40] at H ⊢; exact H)
                     have hji40_ : (IntKind.u64.wrap (1 * 2 ^ min (ji38).toNat 64)) = ji40 := hji40
                     have hji40z : (ji38) ≤ 64 → (IntKind.u64.wrap (1 * 2 ^ (ji38).toNat)) = ji40 := shl_small hji40
                     have hji40u : (IntKind.u64.wrap (2 ^ min (ji38).toNat 64)) = ji40 := by have h_ := hji40_; rw [Int.one_mul] at h_; exact h_
                     have hji40v : (ji38) ≤ 64 → (IntKind.u64.wrap (2 ^ (ji38).toNat)) = ji40 := fun hle_ => by have h_ := hji40z hle_; rw [Int.one_mul] at h_; exact h_
                     by_cases c41 : (ji37) > (ji40)
                     ·rw [if_pos c41] at H
                      have c41b0 : decide ((ji40) < (ji37)) = true := decide_eq_true c41
                      clear c41
                      have H' := Aside0.mk H
                      clear H
                      go_wp2
                      repeat (go_quiet (fail); try go_wp2)
                      go_meet
                      case rel => exact ⟨_, (IntKind.u64.wrap ((ji34) + 1)), (ji24), (by first | rfl | (simp; done) | (simp only [← hji34] <;> (first | rfl | simp)) | (simp [*]; done)), (by first | rfl | (simp; done) | (simp only [← hji24] <;> (first | rfl | simp)) | (simp [*]; done)), H', ⟨by have := HJ6.out; have := HJ12.out; have := HJ16.out; have := HJ25.out; first | omega | exact Nat.le_refl _⟩, ⟨by repeat (first | (with_reducible first | exact HB.out | apply below_alloc | apply pw_below_drewN | apply below_drew1) | exact HB.out)⟩⟩
                     ·rw [if_neg c41] at H
                      have c41b0 : decide ((ji40) < (ji37)) = false := decide_eq_false c41
                      clear c41
                      by_cases c42 : (ji37) = (ji40)
                      ·rw [if_pos c42] at H
                       have c42b0 : ((ji37) == (ji40)) = true := beq_iff_eq.mpr c42
                       have c42b1 : ((ji37) != (ji40)) = false := bne_eq_false_iff_eq.mpr c42
                       clear c42
                       by_cases c43 : a3 = true
                       ·subst c43
                        have H1 : (hexin_Round.j4 kj25 a0 (IntKind.u64.wrap ((ji34) + 1)) ji24 a4 t133) = some (r1, r2) := by rw [if_pos rfl] at H; exact H
                        clear H
                        have H := H1
                        clear H1
                        have H' := Aside0.mk H
                        clear H
                        go_wp2
                        repeat (go_quiet (fail); try go_wp2)
                        go_meet
                        case rel => exact ⟨_, (IntKind.u64.wrap ((ji34) + 1)), (ji24), (by first | rfl | (simp; done) | (simp only [← hji34] <;> (first | rfl | simp)) | (simp [*]; done)), (by first | rfl | (simp; done) | (simp only [← hji24] <;> (first | rfl | simp)) | (simp [*]; done)), H', ⟨by have := HJ6.out; have := HJ12.out; have := HJ16.out; have := HJ25.out; first | omega | exact Nat.le_refl _⟩, ⟨by repeat (first | (with_reducible first | exact HB.out | apply below_alloc | apply pw_below_drewN | apply below_drew1) | exact HB.out)⟩⟩
                       ·replace c43 := Bool.eq_false_iff.mpr c43
                        subst c43
                        have H1 : (if (Go.bits .and .u64 (ji34) 1) = 1 then (hexin_Round.j4 kj25 a0 (IntKind.u64.wrap ((ji34) + 1)) ji24 a4 t133) else (hexin_Round.j4 kj25 a0 ji34 ji24 a4 t133)) = some (r1, r2) := by rw [if_neg (show ¬ (false = true) by decide)] at H; exact H
                        clear H
                        have H := H1
                        clear H1
                        obtain ⟨ji44, hji44⟩ : ∃ j_ : Int, (Go.bits .and .u64 (ji34) 1) = j_ := ⟨_, rfl⟩
                        replace H : (if (ji44) = 1 then (hexin_Round.j4 kj25 a0 (IntKind.u64.wrap ((ji34) + 1)) ji24 a4 t133) else (hexin_Round.j4 kj25 a0 ji34 ji24 a4 t133)) = some (r1, r2) := by first | (rw [hji44] at H; exact H) | (simp only [hji44] at H ⊢; exact H)
                        by_cases c45 : (ji44) = 1
                        ·rw [if_pos c45] at H
                         have c45b0 : ((ji44) == 1) = true := beq_iff_eq.mpr c45
                         have c45b1 : ((ji44) != 1) = false := bne_eq_false_iff_eq.mpr c45
                         clear c45
                         have H' := Aside0.mk H
                         clear H
                         go_wp2
                         repeat (go_quiet (fail); try go_wp2)
                         go_meet
                         case rel => exact ⟨_, (IntKind.u64.wrap ((ji34) + 1)), (ji24), (by first | rfl | (simp; done) | (simp only [← hji34] <;> (first | rfl | simp)) | (simp [*]; done)), (by first | rfl | (simp; done) | (simp only [← hji24] <;> (first | rfl | simp)) | (simp [*]; done)), H', ⟨by have := HJ6.out; have := HJ12.out; have := HJ16.out; have := HJ25.out; first | omega | exact Nat.le_refl _⟩, ⟨by repeat (first | (with_reducible first | exact HB.out | apply below_alloc | apply pw_below_drewN | apply below_drew1) | exact HB.out)⟩⟩
                        ·rw [if_neg c45] at H
                         have c45b0 : ((ji44) == 1) = false := beq_eq_false_iff_ne.mpr c45
                         have c45b1 : ((ji44) != 1) = true := bne_iff_ne.mpr c45
                         have H' := Aside0.mk H
                         clear H
                         go_wp2
                         repeat (go_quiet (fail); try go_wp2)
                         go_meet
                         case rel => exact ⟨_, (ji34), (ji24), (by first | rfl | (simp; done) | (simp only [← hji34] <;> (first | rfl | simp)) | (simp [*]; done)), (by first | rfl | (simp; done) | (simp only [← hji24] <;> (first | rfl | simp)) | (simp [*]; done)), H', ⟨by have := HJ6.out; have := HJ12.out; have := HJ16.out; have := HJ25.out; first | omega | exact Nat.le_refl _⟩, ⟨by repeat (first | (with_reducible first | exact HB.out | apply below_alloc | apply pw_below_drewN | apply below_drew1) | exact HB.out)⟩⟩
                      ·rw [if_neg c42] at H
                       have c42b0 : ((ji37) == (ji40)) = false := beq_eq_false_iff_ne.mpr c42
                       have c42b1 : ((ji37) != (ji40)) = true := bne_iff_ne.mpr c42
                       have H' := Aside0.mk H
                       clear H
                       go_wp2
                       repeat (go_quiet (fail); try go_wp2)
                       go_meet
                       case rel => exact ⟨_, (ji34), (ji24), (by first | rfl | (simp; done) | (simp only [← hji34] <;> (first | rfl | simp)) | (simp [*]; done)), (by first | rfl | (simp; done) | (simp only [← hji24] <;> (first | rfl | simp)) | (simp [*]; done)), H', ⟨by have := HJ6.out; have := HJ12.out; have := HJ16.out; have := HJ25.out; first | omega | exact Nat.le_refl _⟩, ⟨by repeat (first | (with_reducible first | exact HB.out | apply below_alloc | apply pw_below_drewN | apply below_drew1) | exact HB.out)⟩⟩
                    ·rw [if_neg c39] at H
                     exact absurd H (by simp)
                   ·rw [if_neg c33] at H
                    exact absurd H (by simp)
                  ·rw [if_neg c31] at H
                   have c31b0 : decide ((wrap64 ((ji24) - ji11)) < 64) = false := decide_eq_false c31
                   clear c31
                   obtain ⟨ji46, hji46⟩ : ∃ j_ : Int, (wrap64 ((wrap64 ((ji24) - ji11)) - 1)) = j_ := ⟨_, rfl⟩
                   replace H : (if 0 ≤ (ji46) then (if a1 > (shl .u64 1 (ji46)) then (hexin_Round.j4 kj25 a0 1 ji24 a4 t133) else (if a1 = (shl .u64 1 (ji46)) then (if a3 = true then (hexin_Round.j4 kj25 a0 1 ji24 a4 t133) else (if (Go.bits .and .u64 0 1) = 1 then (hexin_Round.j4 kj25 a0 1 ji24 a4 t133) else (hexin_Round.j4 kj25 a0 0 ji24 a4 t133))) else (hexin_Round.j4 kj25 a0 0 ji24 a4 t133))) else (none)) = some (r1, r2) := by first | (rw [hji46] at H; exact H) | (simp only [hji46] at H ⊢; exact H)
                   have hji46w : (IntKind.i64.wrap ((wrap64 ((ji24) - ji11)) - 1)) = ji46 := (i64_w _).trans hji46
                   by_cases c47 : 0 ≤ (ji46)
                   ·rw [if_pos c47] at H
                    have c47b0 := eq_true c47
                    have c47b1 : decide (0 ≤ (ji46)) = true := decide_eq_true c47
                    clear c47
                    obtain ⟨ji48, hji48⟩ : ∃ j_ : Int, (shl .u64 1 (ji46)) = j_ := ⟨_, rfl⟩
                    replace H : (if a1 > (ji48) then (hexin_Round.j4 kj25 a0 1 ji24 a4 t133) else (if a1 = (ji48) then (if a3 = true then (hexin_Round.j4 kj25 a0 1 ji24 a4 t133) else (if (Go.bits .and .u64 0 1) = 1 then (hexin_Round.j4 kj25 a0 1 ji24 a4 t133) else (hexin_Round.j4 kj25 a0 0 ji24 a4 t133))) else (hexin_Round.j4 kj25 a0 0 ji24 a4 t133))) = some (r1, r2) := by first | (rw [hji48] at H; exact H) | (simp only [hji48] at H ⊢; exact H)
                    have hji48_ : (IntKind.u64.wrap (1 * 2 ^ min (ji46).toNat 64)) = ji48 := hji48
                    have hji48z : (ji46) ≤ 64 → (IntKind.u64.wrap (1 * 2 ^ (ji46).toNat)) = ji48 := shl_small hji48
                    have hji48u : (IntKind.u64.wrap (2 ^ min (ji46).toNat 64)) = ji48 := by have h_ := hji48_; rw [Int.one_mul] at h_; exact h_
                    have hji48v : (ji46) ≤ 64 → (IntKind.u64.wrap (2 ^ (ji46).toNat)) = ji48 := fun hle_ => by have h_ := hji48z hle_; rw [Int.one_mul] at h_; exact h_
                    by_cases c49 : a1 > (ji48)
                    ·rw [if_pos c49] at H
                     have c49b0 : decide ((ji48) < a1) = true := decide_eq_true c49
                     clear c49
                     have H' := Aside0.mk H
                     clear H
                     go_wp2
                     repeat (go_quiet (fail); try go_wp2)
                     go_meet
                     case rel => exact ⟨_, (1), (ji24), (by first | rfl | (simp; done) | (simp [*]; done)), (by first | rfl | (simp; done) | (simp only [← hji24] <;> (first | rfl | simp)) | (simp [*]; done)), H', ⟨by have := HJ6.out; have := HJ12.out; have := HJ16.out; have := HJ25.out; first | omega | exact Nat.le_refl _⟩, ⟨by repeat (first | (with_reducible first | exact HB.out | apply below_alloc | apply pw_below_drewN | apply below_drew1) | exact HB.out)⟩⟩
                    ·rw [if_neg c49] at H
                     have c49b0 : decide ((ji48) < a1) = false := decide_eq_false c49
                     clear c49
                     by_cases c50 : a1 = (ji48)
                     ·rw [if_pos c50] at H
                      have c50b0 : (a1 == (ji48)) = true := beq_iff_eq.mpr c50
                      have c50b1 : (a1 != (ji48)) = false := bne_eq_false_iff_eq.mpr c50
                      clear c50
                      by_cases c51 : a3 = true
                      ·subst c51
                       have H1 : (hexin_Round.j4 kj25 a0 1 ji24 a4 t133) = some (r1, r2) := by rw [if_pos rfl] at H; exact H
                       clear H
                       have H := H1
                       clear H1
                       have H' := Aside0.mk H
                       clear H
                       go_wp2
                       repeat (go_quiet (fail); try go_wp2)
                       go_meet
                       case rel => exact ⟨_, (1), (ji24), (by first | rfl | (simp; done) | (simp [*]; done)), (by first | rfl | (simp; done) | (simp only [← hji24] <;> (first | rfl | simp)) | (simp [*]; done)), H', ⟨by have := HJ6.out; have := HJ12.out; have := HJ16.out; have := HJ25.out; first | omega | exact Nat.le_refl _⟩, ⟨by repeat (first | (with_reducible first | exact HB.out | apply below_alloc | apply pw_below_drewN | apply below_drew1) | exact HB.out)⟩⟩
                      ·replace c51 := Bool.eq_false_iff.mpr c51
                       subst c51
                       have H1 : (if (Go.bits .and .u64 0 1) = 1 then (hexin_Round.j4 kj25 a0 1 ji24 a4 t133) else (hexin_Round.j4 kj25 a0 0 ji24 a4 t133)) = some (r1, r2) := by rw [if_neg (show ¬ (false = true) by decide)] at H; exact H
                       clear H
                       have H := H1
                       clear H1
                       obtain ⟨ji52, hji52⟩ : ∃ j_ : Int, (Go.bits .and .u64 0 1) = j_ := ⟨_, rfl⟩
                       replace H : (if (ji52) = 1 then (hexin_Round.j4 kj25 a0 1 ji24 a4 t133) else (hexin_Round.j4 kj25 a0 0 ji24 a4 t133)) = some (r1, r2) := by first | (rw [hji52] at H; exact H) | (simp only [hji52] at H ⊢; exact H)
                       by_cases c53 : (ji52) = 1
                       ·rw [if_pos c53] at H
                        have c53b0 : ((ji52) == 1) = true := beq_iff_eq.mpr c53
                        have c53b1 : ((ji52) != 1) = false := bne_eq_false_iff_eq.mpr c53
                        clear c53
                        have H' := Aside0.mk H
                        clear H
                        go_wp2
                        repeat (go_quiet (fail); try go_wp2)
                        go_meet
                        case rel => exact ⟨_, (1), (ji24), (by first | rfl | (simp; done) | (simp [*]; done)), (by first | rfl | (simp; done) | (simp only [← hji24] <;> (first | rfl | simp)) | (simp [*]; done)), H', ⟨by have := HJ6.out; have := HJ12.out; have := HJ16.out; have := HJ25.out; first | omega | exact Nat.le_refl _⟩, ⟨by repeat (first | (with_reducible first | exact HB.out | apply below_alloc | apply pw_below_drewN | apply below_drew1) | exact HB.out)⟩⟩
                       ·rw [if_neg c53] at H
                        have c53b0 : ((ji52) == 1) = false := beq_eq_false_iff_ne.mpr c53
                        have c53b1 : ((ji52) != 1) = true := bne_iff_ne.mpr c53
                        have H' := Aside0.mk H
                        clear H
                        go_wp2
                        repeat (go_quiet (fail); try go_wp2)
                        go_meet
                        case rel => exact ⟨_, (0), (ji24), (by first | rfl | (simp; done) | (simp [*]; done)), (by first | rfl | (simp; done) | (simp only [← hji24] <;> (first | rfl | simp)) | (simp [*]; done)), H', ⟨by have := HJ6.out; have := HJ12.out; have := HJ16.out; have := HJ25.out; first | omega | exact Nat.le_refl _⟩, ⟨by repeat (first | (with_reducible first | exact HB.out | apply below_alloc | apply pw_below_drewN | apply below_drew1) | exact HB.out)⟩⟩
                     ·rw [if_neg c50] at H
                      have c50b0 : (a1 == (ji48)) = false := beq_eq_false_iff_ne.mpr c50
                      have c50b1 : (a1 != (ji48)) = true := bne_iff_ne.mpr c50
                      have H' := Aside0.mk H
                      clear H
                      go_wp2
                      repeat (go_quiet (fail); try go_wp2)
                      go_meet
                      case rel => exact ⟨_, (0), (ji24), (by first | rfl | (simp; done) | (simp [*]; done)), (by first | rfl | (simp; done) | (simp only [← hji24] <;> (first | rfl | simp)) | (simp [*]; done)), H', ⟨by have := HJ6.out; have := HJ12.out; have := HJ16.out; have := HJ25.out; first | omega | exact Nat.le_refl _⟩, ⟨by repeat (first | (with_reducible first | exact HB.out | apply below_alloc | apply pw_below_drewN | apply below_drew1) | exact HB.out)⟩⟩
                   ·rw [if_neg c47] at H
                    exact absurd H (by simp)
                 ·rw [if_neg c30] at H
                  have c30b0 : decide (0 < (wrap64 ((ji24) - ji11))) = false := decide_eq_false c30
                  clear c30
                  have H' := Aside0.mk H
                  clear H
                  go_wp2
                  repeat (go_quiet (fail); try go_wp2)
                  go_meet
                  case rel => exact ⟨_, (a1), (ji11), (by first | rfl | (simp; done) | (simp [*]; done)), (by first | rfl | (simp; done) | (simp only [← hji11] <;> (first | rfl | simp)) | (simp [*]; done)), H', ⟨by have := HJ6.out; have := HJ12.out; have := HJ16.out; have := HJ25.out; first | omega | exact Nat.le_refl _⟩, ⟨by repeat (first | (with_reducible first | exact HB.out | apply below_alloc | apply pw_below_drewN | apply below_drew1) | exact HB.out)⟩⟩
            case rest =>
             clear HC25
             try clear c1
             try clear q1
             try clear c2
             try clear p2
             try clear c3
             try clear c4
             try clear c5
             try clear p6
             try clear c9
             try clear c9b0
             try clear c9b1
             try clear q13
             try clear c15
             try clear c15b0
             try clear c15b1
             try clear c16
             try clear c18
             try clear c18b0
             try clear c18b1
             try clear c19
             try clear c20
             try clear c20b0
             try clear c20b1
             try clear c21
             try clear c21b0
             try clear c27
             try clear c28
             try clear c29
             try clear c29b0
             try clear c30
             try clear c30b0
             try clear c31
             try clear c31b0
             try clear c33
             try clear c33b0
             try clear c33b1
             try clear c35
             try clear c35b0
             try clear c39
             try clear c39b0
             try clear c39b1
             try clear c41
             try clear c41b0
             try clear c42
             try clear c42b0
             try clear c42b1
             try clear c43
             try clear c45
             try clear c45b0
             try clear c45b1
             try clear c47
             try clear c47b0
             try clear c47b1
             try clear c49
             try clear c49b0
             try clear c50
             try clear c50b0
             try clear c50b1
             try clear c51
             try clear c53
             try clear c53b0
             try clear c53b1
             try clear p2
             try clear p6
             try clear q1
             try clear q13
             try clear q135
             obtain ⟨kq, x1_24, x2_24, rfl, rfl, HA, HJ24, HB⟩ := hcut
             cases kq with
             | zero => exact absurd HA.out (by simp [hexin_Round.j4])
             | succ kj24 =>
              have H := HA.out
              clear HA
              simp only [hexin_Round.j4] at H
              by_cases c54 : x1_24 = 0
              ·rw [if_pos c54] at H
               have c54b0 : (x1_24 == 0) = true := beq_iff_eq.mpr c54
               have c54b1 : (x1_24 != 0) = false := bne_eq_false_iff_eq.mpr c54
               clear c54
               simp only [Option.some.injEq, Prod.mk.injEq] at H
               obtain ⟨rfl, rfl⟩ := H
               go_wp2
               repeat (go_quiet (fail); try go_wp2)
               go_ret2
               exact ⟨by first | rfl | (simp [errW_none, errW_some] <;> rfl) | (simp only [← hji10, ← hji11, ← hji24]; first | rfl | (simp [errW_none, errW_some] <;> rfl)) | (simp [*, errW_none, errW_some] <;> rfl), by repeat (first | (with_reducible first | exact HB.out | apply below_alloc | apply pw_below_drewN | apply below_drew1) | exact HB.out)⟩
              ·rw [if_neg c54] at H
               have c54b0 : (x1_24 == 0) = false := beq_eq_false_iff_ne.mpr c54
               have c54b1 : (x1_24 != 0) = true := bne_iff_ne.mpr c54
               replace H := Option.bind_eq_some_iff.mp H
               obtain ⟨⟨t139, t140⟩, A550, H⟩ := H
               replace H : (if t140.isNone = true then (some (t139, none)) else ((hexin_beyond.f kj24 a0 a4).bind fun bt142 => (some (bt142.1, bt142.2)))) = some (r1, r2) := H
               have A55 := Aside0.mk A550
               clear A550
               rcases t140 with _ | q141
               ·have H1 : (some (t139, none)) = some (r1, r2) := by rw [if_pos (show (none : Option Int).isNone = true by rfl)] at H; exact H
                clear H
                have H := H1
                clear H1
                try simp only [errW_none, errW_some]
                simp only [Option.some.injEq, Prod.mk.injEq] at H
                obtain ⟨rfl, rfl⟩ := H
                go_wp2_with (first | (go_at_call 13; (with_reducible refine (bits_Pack.calls kj24 a0 2 x1_24 x2_24 a4 t139 none _ ?side1 A55.out).mono ?_); (case side1 => exact Laid_DB64.of_below HL_DB64.out (by repeat (first | (with_reducible first | exact HB.out | apply below_alloc | apply pw_below_drewN | apply below_drew1) | exact HB.out))); rintro e w56 ⟨rfl, hb⟩; have n0_ := Aside0.mk (below_step (by repeat (first | (with_reducible first | exact HB.out | apply below_alloc | apply pw_below_drewN | apply below_drew1) | exact HB.out)) hb); clear HB; have HB := n0_; clear n0_; (try clear hb); (try clear hb2); (try clear hk); (try clear hi); (try simp only [errW_none, errW_some])))
                repeat (go_quiet (first | (go_at_call 13; (with_reducible refine (bits_Pack.calls kj24 a0 2 x1_24 x2_24 a4 t139 none _ ?side1 A55.out).mono ?_); (case side1 => exact Laid_DB64.of_below HL_DB64.out (by repeat (first | (with_reducible first | exact HB.out | apply below_alloc | apply pw_below_drewN | apply below_drew1) | exact HB.out))); rintro e w56 ⟨rfl, hb⟩; have n0_ := Aside0.mk (below_step (by repeat (first | (with_reducible first | exact HB.out | apply below_alloc | apply pw_below_drewN | apply below_drew1) | exact HB.out)) hb); clear HB; have HB := n0_; clear n0_; (try clear hb); (try clear hb2); (try clear hk); (try clear hi); (try simp only [errW_none, errW_some]))); try go_wp2_with (first | (go_at_call 13; (with_reducible refine (bits_Pack.calls kj24 a0 2 x1_24 x2_24 a4 t139 none _ ?side1 A55.out).mono ?_); (case side1 => exact Laid_DB64.of_below HL_DB64.out (by repeat (first | (with_reducible first | exact HB.out | apply below_alloc | apply pw_below_drewN | apply below_drew1) | exact HB.out))); rintro e w56 ⟨rfl, hb⟩; have n0_ := Aside0.mk (below_step (by repeat (first | (with_reducible first | exact HB.out | apply below_alloc | apply pw_below_drewN | apply below_drew1) | exact HB.out)) hb); clear HB; have HB := n0_; clear n0_; (try clear hb); (try clear hb2); (try clear hk); (try clear hi); (try simp only [errW_none, errW_some]))))
                go_ret2
                exact ⟨by first | rfl | (simp [errW_none, errW_some] <;> rfl) | (simp only [← hji10, ← hji11, ← hji24]; first | rfl | (simp [errW_none, errW_some] <;> rfl)) | (simp [*, errW_none, errW_some] <;> rfl), by repeat (first | (with_reducible first | exact HB.out | apply below_alloc | apply pw_below_drewN | apply below_drew1) | exact HB.out)⟩
               ·have H1 : ((hexin_beyond.f kj24 a0 a4).bind fun bt142 => (some (bt142.1, bt142.2))) = some (r1, r2) := by rw [if_neg (show ¬ (some q141).isNone = true by simp)] at H; exact H
                clear H
                have H := H1
                clear H1
                try simp only [errW_none, errW_some]
                replace H := Option.bind_eq_some_iff.mp H
                obtain ⟨⟨t142, t143⟩, A570, H⟩ := H
                replace H : (some (t142, t143)) = some (r1, r2) := H
                have A57 := Aside0.mk A570
                clear A570
                simp only [Option.some.injEq, Prod.mk.injEq] at H
                obtain ⟨rfl, rfl⟩ := H
                go_wp2_with (first | (go_at_call 13; (with_reducible refine (bits_Pack.calls kj24 a0 2 x1_24 x2_24 a4 t139 (some q141) _ ?side1 A55.out).mono ?_); (case side1 => exact Laid_DB64.of_below HL_DB64.out (by repeat (first | (with_reducible first | exact HB.out | apply below_alloc | apply pw_below_drewN | apply below_drew1) | exact HB.out))); rintro e w58 ⟨rfl, hb⟩; have n0_ := Aside0.mk (below_step (by repeat (first | (with_reducible first | exact HB.out | apply below_alloc | apply pw_below_drewN | apply below_drew1) | exact HB.out)) hb); clear HB; have HB := n0_; clear n0_; (try clear hb); (try clear hb2); (try clear hk); (try clear hi); (try simp only [errW_none, errW_some])) | (go_at_call 12; (with_reducible refine (hexin_beyond.calls kj24 a0 a4 t142 t143 _ ?side1 A57.out).mono ?_); (case side1 => exact Laid_DB64.of_below HL_DB64.out (by repeat (first | (with_reducible first | exact HB.out | apply below_alloc | apply pw_below_drewN | apply below_drew1) | exact HB.out))); rintro e w59 ⟨rfl, hb⟩; have n0_ := Aside0.mk (below_step (by repeat (first | (with_reducible first | exact HB.out | apply below_alloc | apply pw_below_drewN | apply below_drew1) | exact HB.out)) hb); clear HB; have HB := n0_; clear n0_; (try clear hb); (try clear hb2); (try clear hk); (try clear hi); (try simp only [errW_none, errW_some])))
                repeat (go_quiet (first | (go_at_call 13; (with_reducible refine (bits_Pack.calls kj24 a0 2 x1_24 x2_24 a4 t139 (some q141) _ ?side1 A55.out).mono ?_); (case side1 => exact Laid_DB64.of_below HL_DB64.out (by repeat (first | (with_reducible first | exact HB.out | apply below_alloc | apply pw_below_drewN | apply below_drew1) | exact HB.out))); rintro e w58 ⟨rfl, hb⟩; have n0_ := Aside0.mk (below_step (by repeat (first | (with_reducible first | exact HB.out | apply below_alloc | apply pw_below_drewN | apply below_drew1) | exact HB.out)) hb); clear HB; have HB := n0_; clear n0_; (try clear hb); (try clear hb2); (try clear hk); (try clear hi); (try simp only [errW_none, errW_some])) | (go_at_call 12; (with_reducible refine (hexin_beyond.calls kj24 a0 a4 t142 t143 _ ?side1 A57.out).mono ?_); (case side1 => exact Laid_DB64.of_below HL_DB64.out (by repeat (first | (with_reducible first | exact HB.out | apply below_alloc | apply pw_below_drewN | apply below_drew1) | exact HB.out))); rintro e w59 ⟨rfl, hb⟩; have n0_ := Aside0.mk (below_step (by repeat (first | (with_reducible first | exact HB.out | apply below_alloc | apply pw_below_drewN | apply below_drew1) | exact HB.out)) hb); clear HB; have HB := n0_; clear n0_; (try clear hb); (try clear hb2); (try clear hk); (try clear hi); (try simp only [errW_none, errW_some]))); try go_wp2_with (first | (go_at_call 13; (with_reducible refine (bits_Pack.calls kj24 a0 2 x1_24 x2_24 a4 t139 (some q141) _ ?side1 A55.out).mono ?_); (case side1 => exact Laid_DB64.of_below HL_DB64.out (by repeat (first | (with_reducible first | exact HB.out | apply below_alloc | apply pw_below_drewN | apply below_drew1) | exact HB.out))); rintro e w58 ⟨rfl, hb⟩; have n0_ := Aside0.mk (below_step (by repeat (first | (with_reducible first | exact HB.out | apply below_alloc | apply pw_below_drewN | apply below_drew1) | exact HB.out)) hb); clear HB; have HB := n0_; clear n0_; (try clear hb); (try clear hb2); (try clear hk); (try clear hi); (try simp only [errW_none, errW_some])) | (go_at_call 12; (with_reducible refine (hexin_beyond.calls kj24 a0 a4 t142 t143 _ ?side1 A57.out).mono ?_); (case side1 => exact Laid_DB64.of_below HL_DB64.out (by repeat (first | (with_reducible first | exact HB.out | apply below_alloc | apply pw_below_drewN | apply below_drew1) | exact HB.out))); rintro e w59 ⟨rfl, hb⟩; have n0_ := Aside0.mk (below_step (by repeat (first | (with_reducible first | exact HB.out | apply below_alloc | apply pw_below_drewN | apply below_drew1) | exact HB.out)) hb); clear HB; have HB := n0_; clear n0_; (try clear hb); (try clear hb2); (try clear hk); (try clear hi); (try simp only [errW_none, errW_some]))))
                go_ret2
                exact ⟨by first | rfl | (simp [errW_none, errW_some] <;> rfl) | (simp only [← hji10, ← hji11, ← hji24]; first | rfl | (simp [errW_none, errW_some] <;> rfl)) | (simp [*, errW_none, errW_some] <;> rfl), by repeat (first | (with_reducible first | exact HB.out | apply below_alloc | apply pw_below_drewN | apply below_drew1) | exact HB.out)⟩
 ·have H1 : (some (0, some q135)) = some (r1, r2) := by rw [if_neg (show ¬ (some q135).isNone = true by simp)] at H; exact H
  clear H
  have H := H1
  clear H1
  try simp only [errW_none, errW_some]
  simp only [Option.some.injEq, Prod.mk.injEq] at H
  obtain ⟨rfl, rfl⟩ := H
  go_enter Tryd.func5, Tryd.ntmps5
  go_wp2_with (first | (go_at_call 10; (with_reducible refine (bits_Zero.calls k a0 a4 t133 (some q135) _ ?side1 A6.out).mono ?_); (case side1 => exact Laid_DB64.of_below HL_DB64.out (by repeat (first | (with_reducible first | exact HB.out | apply below_alloc | apply pw_below_drewN | apply below_drew1) | exact HB.out))); rintro e w60 ⟨rfl, hb⟩; have n0_ := Aside0.mk (below_step (by repeat (first | (with_reducible first | exact HB.out | apply below_alloc | apply pw_below_drewN | apply below_drew1) | exact HB.out)) hb); clear HB; have HB := n0_; clear n0_; (try clear hb); (try clear hb2); (try clear hk); (try clear hi); (try simp only [errW_none, errW_some])))
  repeat (go_quiet (first | (go_at_call 10; (with_reducible refine (bits_Zero.calls k a0 a4 t133 (some q135) _ ?side1 A6.out).mono ?_); (case side1 => exact Laid_DB64.of_below HL_DB64.out (by repeat (first | (with_reducible first | exact HB.out | apply below_alloc | apply pw_below_drewN | apply below_drew1) | exact HB.out))); rintro e w60 ⟨rfl, hb⟩; have n0_ := Aside0.mk (below_step (by repeat (first | (with_reducible first | exact HB.out | apply below_alloc | apply pw_below_drewN | apply below_drew1) | exact HB.out)) hb); clear HB; have HB := n0_; clear n0_; (try clear hb); (try clear hb2); (try clear hk); (try clear hi); (try simp only [errW_none, errW_some]))); try go_wp2_with (first | (go_at_call 10; (with_reducible refine (bits_Zero.calls k a0 a4 t133 (some q135) _ ?side1 A6.out).mono ?_); (case side1 => exact Laid_DB64.of_below HL_DB64.out (by repeat (first | (with_reducible first | exact HB.out | apply below_alloc | apply pw_below_drewN | apply below_drew1) | exact HB.out))); rintro e w60 ⟨rfl, hb⟩; have n0_ := Aside0.mk (below_step (by repeat (first | (with_reducible first | exact HB.out | apply below_alloc | apply pw_below_drewN | apply below_drew1) | exact HB.out)) hb); clear HB; have HB := n0_; clear n0_; (try clear hb); (try clear hb2); (try clear hk); (try clear hi); (try simp only [errW_none, errW_some]))))
  go_ret2
  exact ⟨by first | rfl | (simp [errW_none, errW_some] <;> rfl) | (simp [*, errW_none, errW_some] <;> rfl), by repeat (first | (with_reducible first | exact HB.out | apply below_alloc | apply pw_below_drewN | apply below_drew1) | exact HB.out)⟩

end Go.Proofs.YtbnmchaldolpfaaDoor.Xo
