-- PRINTED by print.py (a twelfth state) out of the translation. Not trusted: Lean checks it.
import Derived.Test.YtemjpmgfbnlkjaaDoorXsx0
import Derived.Test.YtemjpmgfbnlkjaaDoorXsx1
namespace Go.Proofs.YtemjpmgfbnlkjaaDoor.Xs
open Go.RowKit Go.Proofs.YtemjpmgfbnlkjaaDoorW.PrintWords Go.Proofs.YtemjpmgfbnlkjaaDoorW.PrintLast Go.Proofs.YtemjpmgfbnlkjaaDoorW.PrintMore
attribute [local go_sem] max2_int min2_int max_two min_two max_three min_three max_four min_four   -- for this text's walks alone
set_option linter.unusedVariables false
set_option linter.unusedSimpArgs false

/-! ### nat_Shr: function 9 -/
mutual
def nat_Shr.l0 : Nat → List Int → Int → Int → Bool → List Int → Int → Int → Option (List Int × Bool × Option Int)
 | 0, _, _, _, _, _, _, _ => none
 | k + 1, x0, x8, x9, x10, x50, x51, x52 => if x52 < x51 then (if 0 ≤ x52 then (if x52 < (x50.length : Int) then (if x10 = true then (nat_Shr.l0 k x0 x8 x9 true x50 x51 (wrap64 (x52 + 1))) else (nat_Shr.l0 k x0 x8 x9 ((rd x50 x52) != 0) x50 x51 (wrap64 (x52 + 1)))) else (none)) else (none)) else (if 0 ≤ (wrap64 ((x0.length : Int) - x8)) then (if (wrap64 ((x0.length : Int) - x8) : Int).toNat ≤ 35184372088832 then ((some (List.replicate (wrap64 ((x0.length : Int) - x8) : Int).toNat 0 : List Int)).bind fun y193 => (nat_Shr.l1 k x0 x8 x9 x10 y193 (y193.length : Int) 0)) else (none)) else (none))
def nat_Shr.l1 : Nat → List Int → Int → Int → Bool → List Int → Int → Int → Option (List Int × Bool × Option Int)
 | 0, _, _, _, _, _, _, _ => none
 | k + 1, x0, x8, x9, x10, x13, x68, x69 => if x69 < x68 then (if 0 ≤ (wrap64 (x8 + x69)) then (if (wrap64 (x8 + x69)) < (x0.length : Int) then (if 0 ≤ x9 then (if 0 ≤ x69 then (if x69 < (x13.length : Int) then ((some (x13.set (x69 : Int).toNat (shr .u64 (rd x0 (wrap64 (x8 + x69))) x9) : List Int)).bind fun y197 => (if x9 > 0 then (if (wrap64 ((wrap64 (x8 + x69)) + 1)) < (x0.length : Int) then (if 0 ≤ (wrap64 ((wrap64 (x8 + x69)) + 1)) then (if 0 ≤ (IntKind.u64.wrap (64 - x9)) then (nat_Shr.l1 k x0 x8 x9 x10 (y197.set (x69 : Int).toNat (Go.bits .or .u64 (rd y197 x69) (shl .u64 (rd x0 (wrap64 ((wrap64 (x8 + x69)) + 1))) (IntKind.u64.wrap (64 - x9))))) x68 (wrap64 (x69 + 1))) else (none)) else (none)) else (nat_Shr.l1 k x0 x8 x9 x10 y197 x68 (wrap64 (x69 + 1)))) else (nat_Shr.l1 k x0 x8 x9 x10 y197 x68 (wrap64 (x69 + 1))))) else (none)) else (none)) else (none)) else (none)) else (none)) else ((nat_trim.f k x13).bind fun t201 => (some (t201, x10, none)))
end
def nat_Shr.f (k : Nat) (l0 : List Int) (a1 : Int) : Option (List Int × Bool × Option Int) := (nat_Valid.f l0).bind fun t188 => (if t188.isNone = true then (if a1 < 0 then (some (([] : List Int), false, some 1)) else (if (wrap64 (Int.tdiv a1 64)) ≥ (l0.length : Int) then (some (([] : List Int), decide ((l0.length : Int) > 0), none)) else (if 0 ≤ (wrap64 (Int.tdiv a1 64)) then (if (wrap64 (Int.tdiv a1 64)) < (l0.length : Int) then (if 0 ≤ (IntKind.u64.wrap (Int.tmod a1 64)) then (if (wrap64 (Int.tdiv a1 64)) ≤ (l0.length : Int) then (nat_Shr.l0 k l0 (wrap64 (Int.tdiv a1 64)) (IntKind.u64.wrap (Int.tmod a1 64)) ((Go.bits .and .u64 (rd l0 (wrap64 (Int.tdiv a1 64))) (IntKind.u64.wrap ((shl .u64 1 (IntKind.u64.wrap (Int.tmod a1 64))) - 1))) != 0) (l0.take ((wrap64 (Int.tdiv a1 64)) : Int).toNat) ((l0.take ((wrap64 (Int.tdiv a1 64)) : Int).toNat).length : Int) 0) else (none)) else (none)) else (none)) else (none)))) else (some (([] : List Int), false, some (t188.getD 0))))
theorem nat_Shr.mono_l : ∀ k, (∀ y0 y1 y2 y3 y4 y5 y6, LeO (nat_Shr.l0 k y0 y1 y2 y3 y4 y5 y6) (nat_Shr.l0 (k + 1) y0 y1 y2 y3 y4 y5 y6)) ∧ (∀ y0 y1 y2 y3 y4 y5 y6, LeO (nat_Shr.l1 k y0 y1 y2 y3 y4 y5 y6) (nat_Shr.l1 (k + 1) y0 y1 y2 y3 y4 y5 y6))
 | 0 => ⟨fun _ _ _ _ _ _ _ r h => by simp [nat_Shr.l0] at h, fun _ _ _ _ _ _ _ r h => by simp [nat_Shr.l1] at h⟩
 | k + 1 => by
  obtain ⟨ih0, ih1⟩ := nat_Shr.mono_l k
  refine ⟨?_, ?_⟩
  ·intro y0 y1 y2 y3 y4 y5 y6
   unfold nat_Shr.l0
   repeat' first
   | (with_reducible exact ih0 _ _ _ _ _ _ _)
   | (with_reducible exact ih1 _ _ _ _ _ _ _)
   | (with_reducible exact nat_trim.mono _ _)
   | (with_reducible exact LeO.refl _)
   | (with_reducible exact LeO.none _)
   | (with_reducible refine LeO.ite ?_ ?_)
   | (with_reducible refine LeO.bind ?_ (fun _ => ?_))
   | exact ih0 _ _ _ _ _ _ _
   | exact ih1 _ _ _ _ _ _ _
   | exact nat_trim.mono _ _
   | exact LeO.none _
   | refine LeO.ite ?_ ?_
   | refine LeO.bind ?_ (fun _ => ?_)
  ·intro y0 y1 y2 y3 y4 y5 y6
   unfold nat_Shr.l1
   repeat' first
   | (with_reducible exact ih0 _ _ _ _ _ _ _)
   | (with_reducible exact ih1 _ _ _ _ _ _ _)
   | (with_reducible exact nat_trim.mono _ _)
   | (with_reducible exact LeO.refl _)
   | (with_reducible exact LeO.none _)
   | (with_reducible refine LeO.ite ?_ ?_)
   | (with_reducible refine LeO.bind ?_ (fun _ => ?_))
   | exact ih0 _ _ _ _ _ _ _
   | exact ih1 _ _ _ _ _ _ _
   | exact nat_trim.mono _ _
   | exact LeO.none _
   | refine LeO.ite ?_ ?_
   | refine LeO.bind ?_ (fun _ => ?_)
theorem nat_Shr.mono : ∀ a0 a1 k, LeO (nat_Shr.f k a0 a1) (nat_Shr.f (k + 1) a0 a1) := by
 intro a0 a1 k
 obtain ⟨ih0, ih1⟩ := nat_Shr.mono_l k
 unfold nat_Shr.f
 repeat' first
   | (with_reducible exact ih0 _ _ _ _ _ _ _)
   | (with_reducible exact ih1 _ _ _ _ _ _ _)
   | (with_reducible exact nat_trim.mono _ _)
   | (with_reducible exact LeO.refl _)
   | (with_reducible exact LeO.none _)
   | (with_reducible refine LeO.ite ?_ ?_)
   | (with_reducible refine LeO.bind ?_ (fun _ => ?_))
   | exact ih0 _ _ _ _ _ _ _
   | exact ih1 _ _ _ _ _ _ _
   | exact nat_trim.mono _ _
   | exact LeO.none _
   | refine LeO.ite ?_ ?_
   | refine LeO.bind ?_ (fun _ => ?_)
def nat_Shr.T21 : Bool × List (List Nat × List Nat) := (true, [([], []), ([], []), ([0, 1], [0, 1]), ([2], [2]), ([], []), ([], []), ([], []), ([5, 6], [5, 6]), ([7], [7]), ([4, 8], [4, 8]), ([9], [9]), ([], []), ([11], [11]), ([10, 12], [10, 12]), ([3, 13], [3, 13]), ([0, 1, 0, 1, 2, 3, 4, 5, 6, 7, 8, 9, 10, 11, 12, 13, 14], [0, 1]), ([15, 14, 0, 1, 2, 3, 4, 5, 6, 7, 8, 9, 10, 11, 12, 13, 14], [14, 15])])
def nat_Shr.B21 : List Nat := [0, 0, 3, 7, 0, 0, 0, 96, 224, 496, 1008, 0, 2048, 8176, 16383, 32767, 65535]
theorem nat_Shr.tab21 : rtab .any (opsOf Tryd.f9 21) = nat_Shr.T21 := by kernel_rfl
theorem nat_Shr.bits21 : waitsOk nat_Shr.T21.2 nat_Shr.B21 = true := by kernel_rfl
set_option maxHeartbeats 8000000 in
set_option maxRecDepth 100000 in
theorem nat_Shr.calls (k : Nat) (A0 : Option Addr) (c0 : Nat) (l0 : List Int) (a1 : Int) (r1 : List Int) (r2 : Bool) (r3 : Option Int) (w : World) (hr0 : Kd.C (Kd.int .u64) w A0 l0.length l0) (hc0 : l0.length ≤ c0) (h : nat_Shr.f k l0 a1 = some (r1, r2, r3)) :
  Calls Tryd.prog 9 #[.slice A0 l0.length c0, .int .i64 a1] w fun e w' => ∃ v0_ : Value, e = .returned (.tuple #[v0_, .bool r2, errW r3]) ∧ Kd.Q (Kd.int .u64) 52 w' w.heap.size (fun _ => True) v0_ r1 ∧ Below w.heap.size w w' := by
 have hu25 := Tryd.underlying25
 have hu56 := Tryd.underlying56
 have HR0 := Aside0.mk hr0
 have HC0 := Aside0.mk hc0
 clear hr0 hc0
 have HB := Aside0.mk (Below.refl w.heap.size w)
 have H : ((nat_Valid.f l0).bind fun t188 => (if t188.isNone = true then (if a1 < 0 then (some (([] : List Int), false, some 1)) else (if (wrap64 (Int.tdiv a1 64)) ≥ (l0.length : Int) then (some (([] : List Int), decide ((l0.length : Int) > 0), none)) else (if 0 ≤ (wrap64 (Int.tdiv a1 64)) then (if (wrap64 (Int.tdiv a1 64)) < (l0.length : Int) then (if 0 ≤ (IntKind.u64.wrap (Int.tmod a1 64)) then (if (wrap64 (Int.tdiv a1 64)) ≤ (l0.length : Int) then (nat_Shr.l0 k l0 (wrap64 (Int.tdiv a1 64)) (IntKind.u64.wrap (Int.tmod a1 64)) ((Go.bits .and .u64 (rd l0 (wrap64 (Int.tdiv a1 64))) (IntKind.u64.wrap ((shl .u64 1 (IntKind.u64.wrap (Int.tmod a1 64))) - 1))) != 0) (l0.take ((wrap64 (Int.tdiv a1 64)) : Int).toNat) ((l0.take ((wrap64 (Int.tdiv a1 64)) : Int).toNat).length : Int) 0) else (none)) else (none)) else (none)) else (none)))) else (some (([] : List Int), false, some (t188.getD 0))))) = some (r1, r2, r3) := h
 clear h
 replace H := Option.bind_eq_some_iff.mp H
 obtain ⟨t188, A30, H⟩ := H
 replace H : (if t188.isNone = true then (if a1 < 0 then (some (([] : List Int), false, some 1)) else (if (wrap64 (Int.tdiv a1 64)) ≥ (l0.length : Int) then (some (([] : List Int), decide ((l0.length : Int) > 0), none)) else (if 0 ≤ (wrap64 (Int.tdiv a1 64)) then (if (wrap64 (Int.tdiv a1 64)) < (l0.length : Int) then (if 0 ≤ (IntKind.u64.wrap (Int.tmod a1 64)) then (if (wrap64 (Int.tdiv a1 64)) ≤ (l0.length : Int) then (nat_Shr.l0 k l0 (wrap64 (Int.tdiv a1 64)) (IntKind.u64.wrap (Int.tmod a1 64)) ((Go.bits .and .u64 (rd l0 (wrap64 (Int.tdiv a1 64))) (IntKind.u64.wrap ((shl .u64 1 (IntKind.u64.wrap (Int.tmod a1 64))) - 1))) != 0) (l0.take ((wrap64 (Int.tdiv a1 64)) : Int).toNat) ((l0.take ((wrap64 (Int.tdiv a1 64)) : Int).toNat).length : Int) 0) else (none)) else (none)) else (none)) else (none)))) else (some (([] : List Int), false, some (t188.getD 0)))) = some (r1, r2, r3) := H
 have A3 := Aside0.mk A30
 clear A30
 rcases t188 with _ | q189
 ·have H1 : (if a1 < 0 then (some (([] : List Int), false, some 1)) else (if (wrap64 (Int.tdiv a1 64)) ≥ (l0.length : Int) then (some (([] : List Int), decide ((l0.length : Int) > 0), none)) else (if 0 ≤ (wrap64 (Int.tdiv a1 64)) then (if (wrap64 (Int.tdiv a1 64)) < (l0.length : Int) then (if 0 ≤ (IntKind.u64.wrap (Int.tmod a1 64)) then (if (wrap64 (Int.tdiv a1 64)) ≤ (l0.length : Int) then (nat_Shr.l0 k l0 (wrap64 (Int.tdiv a1 64)) (IntKind.u64.wrap (Int.tmod a1 64)) ((Go.bits .and .u64 (rd l0 (wrap64 (Int.tdiv a1 64))) (IntKind.u64.wrap ((shl .u64 1 (IntKind.u64.wrap (Int.tmod a1 64))) - 1))) != 0) (l0.take ((wrap64 (Int.tdiv a1 64)) : Int).toNat) ((l0.take ((wrap64 (Int.tdiv a1 64)) : Int).toNat).length : Int) 0) else (none)) else (none)) else (none)) else (none)))) = some (r1, r2, r3) := by rw [if_pos (show (none : Option Int).isNone = true by rfl)] at H; exact H
  clear H
  have H := H1
  clear H1
  try simp only [errW_none, errW_some]
  by_cases c4 : a1 < 0
  ·rw [if_pos c4] at H
   have c4b0 : decide (a1 < 0) = true := decide_eq_true c4
   clear c4
   simp only [Option.some.injEq, Prod.mk.injEq] at H
   obtain ⟨rfl, rfl, rfl⟩ := H
   go_enter Tryd.func9, Tryd.ntmps9
   go_wp2_with (first | ((with_reducible refine gate_callee (f := 25) rfl ?_); refine goesL_ (some 16) rfl rfl Tryd.func25 (by kernel_rfl) rfl #[.slice A0 l0.length c0] rfl (by (try simp only [List.map_toArray, List.map_cons, List.map_nil]); first | done | rfl | (simp only [List.length_drop, List.length_take]; rfl)) ?_; (with_reducible refine (nat_Valid.calls _ _ l0 none _ ?side1 ?side2 A3.out).mono ?_); (case side1 => repeat (first | exact HR0.out | (with_reducible refine Kd.C_alloc ?_ _) | (with_reducible refine Kd.C_drewN ?_ _) | (with_reducible refine Kd.C_drew ?_))); (case side2 => exact HC0.out); rintro e w' ⟨rfl, ⟨nd, rfl⟩⟩; refine ⟨_, rfl, ?_⟩; (try simp only [errW_none, errW_some])))
   go_ret3
   exact ⟨_, by first | rfl | (simp [errW_none, errW_some] <;> rfl) | (simp [*, errW_none, errW_some] <;> rfl), Kd.Q_of_R (by first | exact Kd.R_nil _ _ _ _ _ | exact Kd.N_nil _ _ _ _ _ | exact Kd.V_nil _ _ _ _ _ | exact Kd.Q_nil _ _ _ _ _ | exact Kd.S_nil _ _ _ _ _), by repeat (first | (with_reducible first | exact HB.out | apply below_alloc | apply pw_below_drewN | apply below_drew1) | exact HB.out)⟩
  ·rw [if_neg c4] at H
   have c4b0 : decide (a1 < 0) = false := decide_eq_false c4
   clear c4
   by_cases c5 : (wrap64 (Int.tdiv a1 64)) ≥ (l0.length : Int)
   ·rw [if_pos c5] at H
    have c5b0 : decide ((l0.length : Int) ≤ (wrap64 (Int.tdiv a1 64))) = true := decide_eq_true c5
    clear c5
    simp only [Option.some.injEq, Prod.mk.injEq] at H
    obtain ⟨rfl, rfl, rfl⟩ := H
    go_enter Tryd.func9, Tryd.ntmps9
    go_wp2_with (first | ((with_reducible refine gate_callee (f := 25) rfl ?_); refine goesL_ (some 16) rfl rfl Tryd.func25 (by kernel_rfl) rfl #[.slice A0 l0.length c0] rfl (by (try simp only [List.map_toArray, List.map_cons, List.map_nil]); first | done | rfl | (simp only [List.length_drop, List.length_take]; rfl)) ?_; (with_reducible refine (nat_Valid.calls _ _ l0 none _ ?side1 ?side2 A3.out).mono ?_); (case side1 => repeat (first | exact HR0.out | (with_reducible refine Kd.C_alloc ?_ _) | (with_reducible refine Kd.C_drewN ?_ _) | (with_reducible refine Kd.C_drew ?_))); (case side2 => exact HC0.out); rintro e w' ⟨rfl, ⟨nd, rfl⟩⟩; refine ⟨_, rfl, ?_⟩; (try simp only [errW_none, errW_some])))
    go_ret3
    exact ⟨_, by first | rfl | (simp [errW_none, errW_some] <;> rfl) | (simp [*, errW_none, errW_some] <;> rfl), Kd.Q_of_R (by first | exact Kd.R_nil _ _ _ _ _ | exact Kd.N_nil _ _ _ _ _ | exact Kd.V_nil _ _ _ _ _ | exact Kd.Q_nil _ _ _ _ _ | exact Kd.S_nil _ _ _ _ _), by repeat (first | (with_reducible first | exact HB.out | apply below_alloc | apply pw_below_drewN | apply below_drew1) | exact HB.out)⟩
   ·rw [if_neg c5] at H
    have c5b0 : decide ((l0.length : Int) ≤ (wrap64 (Int.tdiv a1 64))) = false := decide_eq_false c5
    clear c5
    obtain ⟨ji6, hji6⟩ : ∃ j_ : Int, (wrap64 (Int.tdiv a1 64)) = j_ := ⟨_, rfl⟩
    replace H : (if 0 ≤ (ji6) then (if (ji6) < (l0.length : Int) then (if 0 ≤ (IntKind.u64.wrap (Int.tmod a1 64)) then (if (ji6) ≤ (l0.length : Int) then (nat_Shr.l0 k l0 ji6 (IntKind.u64.wrap (Int.tmod a1 64)) ((Go.bits .and .u64 (rd l0 (ji6)) (IntKind.u64.wrap ((shl .u64 1 (IntKind.u64.wrap (Int.tmod a1 64))) - 1))) != 0) (l0.take ((ji6) : Int).toNat) ((l0.take ((ji6) : Int).toNat).length : Int) 0) else (none)) else (none)) else (none)) else (none)) = some (r1, r2, r3) := by first | (rw [hji6] at H; exact H) | (simp only [hji6] at H ⊢; exact H)
    (try rw [hji6] at c5b0)
    (try rw [hji6] at A3)
    have hji6w : (IntKind.i64.wrap (Int.tdiv a1 64)) = ji6 := (i64_w _).trans hji6
    by_cases c7 : 0 ≤ (ji6)
    ·rw [if_pos c7] at H
     have c7b0 : decide (0 ≤ (ji6)) = true := decide_eq_true c7
     clear c7
     by_cases c8 : (ji6) < (l0.length : Int)
     ·rw [if_pos c8] at H
      have c8b0 : decide ((ji6) < (l0.length : Int)) = true := decide_eq_true c8
      clear c8
      obtain ⟨ji9, hji9⟩ : ∃ j_ : Int, (IntKind.u64.wrap (Int.tmod a1 64)) = j_ := ⟨_, rfl⟩
      replace H : (if 0 ≤ (ji9) then (if (ji6) ≤ (l0.length : Int) then (nat_Shr.l0 k l0 ji6 ji9 ((Go.bits .and .u64 (rd l0 (ji6)) (IntKind.u64.wrap ((shl .u64 1 (ji9)) - 1))) != 0) (l0.take ((ji6) : Int).toNat) ((l0.take ((ji6) : Int).toNat).length : Int) 0) else (none)) else (none)) = some (r1, r2, r3) := by first | (rw [hji9] at H; exact H) | (simp only [hji9] at H ⊢; exact H)
      (try rw [hji9] at A3)
      by_cases c10 : 0 ≤ (ji9)
      ·rw [if_pos c10] at H
       have c10b0 := eq_true c10
       have c10b1 : decide (0 ≤ (ji9)) = true := decide_eq_true c10
       clear c10
       obtain ⟨ji11, hji11⟩ : ∃ j_ : Int, (shl .u64 1 (ji9)) = j_ := ⟨_, rfl⟩
       replace H : (if (ji6) ≤ (l0.length : Int) then (nat_Shr.l0 k l0 ji6 ji9 ((Go.bits .and .u64 (rd l0 (ji6)) (IntKind.u64.wrap ((ji11) - 1))) != 0) (l0.take ((ji6) : Int).toNat) ((l0.take ((ji6) : Int).toNat).length : Int) 0) else (none)) = some (r1, r2, r3) := by first | (rw [hji11] at H; exact H) | (simp only [hji11] at H ⊢; exact H)
       (try rw [hji11] at A3)
       have hji11_ : (IntKind.u64.wrap (1 * 2 ^ min (ji9).toNat 64)) = ji11 := hji11
       have hji11z : (ji9) ≤ 64 → (IntKind.u64.wrap (1 * 2 ^ (ji9).toNat)) = ji11 := shl_small hji11
       have hji11u : (IntKind.u64.wrap (2 ^ min (ji9).toNat 64)) = ji11 := by have h_ := hji11_; rw [Int.one_mul] at h_; exact h_
       have hji11v : (ji9) ≤ 64 → (IntKind.u64.wrap (2 ^ (ji9).toNat)) = ji11 := fun hle_ => by have h_ := hji11z hle_; rw [Int.one_mul] at h_; exact h_
       obtain ⟨ji12, hji12⟩ : ∃ j_ : Int, (Go.bits .and .u64 (rd l0 (ji6)) (IntKind.u64.wrap ((ji11) - 1))) = j_ := ⟨_, rfl⟩
       replace H : (if (ji6) ≤ (l0.length : Int) then (nat_Shr.l0 k l0 ji6 ji9 ((ji12) != 0) (l0.take ((ji6) : Int).toNat) ((l0.take ((ji6) : Int).toNat).length : Int) 0) else (none)) = some (r1, r2, r3) := by first | (rw [hji12] at H; exact H) | (simp only [hji12] at H ⊢; exact H)
       (try rw [hji12] at A3)
       have c13b0 := eq_true (of_decide_eq_true (by first | (with_reducible assumption) | assumption) : 0 ≤ (ji6))
       by_cases c14 : (ji6) ≤ (l0.length : Int)
       ·rw [if_pos c14] at H
        have c14b0 := eq_true c14
        have c14b1 : decide ((ji6) ≤ (l0.length : Int)) = true := decide_eq_true c14
        (try (have hmx_ji6 : (((l0.take ((ji6) : Int).toNat)).length : Int) = max ji6 0 := (by rw [List.length_take]; have h_ : 0 ≤ ji6 := of_decide_eq_true (by first | (with_reducible assumption) | assumption); omega)))
        (try (have hmx_ji6 : (((l0.take ((ji6) : Int).toNat)).length : Int) = max ji6 0 := (by rw [List.length_take]; have h_ : 0 ≤ ji6 := of_decide_eq_true (by first | (with_reducible assumption) | assumption); omega)))
        (try (have hmx_ji6 : (((l0.take ((ji6) : Int).toNat)).length : Int) = max ji6 0 := (by rw [List.length_take]; have h_ : 0 ≤ ji6 := of_decide_eq_true (by first | (with_reducible assumption) | assumption); omega)))
        (try (have hmx_ji6 : (((l0.take ((ji6) : Int).toNat)).length : Int) = max ji6 0 := (by rw [List.length_take]; have h_ : 0 ≤ ji6 := of_decide_eq_true (by first | (with_reducible assumption) | assumption); omega)))
        clear c14
        have H' := Aside0.mk H
        clear H
        go_enter Tryd.func9, Tryd.ntmps9
        go_wp2_with (first | ((with_reducible refine gate_callee (f := 25) rfl ?_); refine goesL_ (some 16) rfl rfl Tryd.func25 (by kernel_rfl) rfl #[.slice A0 l0.length c0] rfl (by (try simp only [List.map_toArray, List.map_cons, List.map_nil]); first | done | rfl | (simp only [List.length_drop, List.length_take]; rfl)) ?_; (with_reducible refine (nat_Valid.calls _ _ l0 none _ ?side1 ?side2 A3.out).mono ?_); (case side1 => repeat (first | exact HR0.out | (with_reducible refine Kd.C_alloc ?_ _) | (with_reducible refine Kd.C_drewN ?_ _) | (with_reducible refine Kd.C_drew ?_))); (case side2 => exact HC0.out); rintro e w' ⟨rfl, ⟨nd, rfl⟩⟩; refine ⟨_, rfl, ?_⟩; (try simp only [errW_none, errW_some]); have p190 : 0 ≤ ((ji6) : Int) := of_decide_eq_true (by first | (with_reducible assumption) | assumption); have q190 : (ji6) < (l0.length : Int) := of_decide_eq_true (by first | (with_reducible assumption) | assumption); obtain ⟨ad190, e190, hx190_0⟩ := Kd.at_int HR0.out (ji6) p190 q190; cases e190; replace p190 := eq_true p190; replace q190 := eq_true q190; obtain ⟨i015, hi015, _, hsz15, _⟩ := info_parts info52; obtain ⟨hcut15, hA15, hC15⟩ := print_take_of (P := Tryd.prog) (Value.int .u64) 0 23 52 .i64 Tryd.underlying23 hi015 hsz15 (some ad190) c0 l0 (ji6) (of_decide_eq_true (by first | (with_reducible assumption) | assumption)) (of_decide_eq_true (by first | (with_reducible assumption) | assumption)) HC0.out; have HR191 := Aside0.mk (Kd.C_of_reads (h1 := fun _ => rfl) (hA15 _ (Kd.reads_of_C HR0.out))); have HC191 := Aside0.mk hC15; clear hA15 hC15 hi015 hsz15))
        go_loopg [10, 52] k (fun kq v10 v52 w' => ∃ (x10_1 : Bool) (x52_1 : Int), v10 = .bool x10_1 ∧ v52 = .int .i64 x52_1 ∧ Aside0 (nat_Shr.l0 kq l0 ji6 ji9 x10_1 (l0.take ((ji6) : Int).toNat) ((l0.take ((ji6) : Int).toNat).length : Int) x52_1 = some (r1, r2, r3)) ∧ Aside0 (kq ≤ k) ∧ Aside0 (Below w.heap.size w w'))
        case atStart => exact ⟨(((ji12) != 0)), (0), (by first | rfl | (simp; done) | (simp only [← hji12] <;> (first | rfl | simp)) | (simp [*]; done)), (by first | rfl | (simp; done) | (simp [*]; done)), H', ⟨Nat.le_refl _⟩, ⟨by repeat (first | (with_reducible first | exact HB.out | apply below_alloc | apply pw_below_drewN | apply below_drew1) | exact HB.out)⟩⟩
        case round =>
         clear H'
         try clear c1
         try clear p1
         try clear q1
         try clear hx1
         try clear c2
         try clear p2
         try clear c4
         try clear c4b0
         try clear c5
         try clear c5b0
         try clear p6
         try clear c7
         try clear c7b0
         try clear c8
         try clear c8b0
         try clear c9
         try clear c10
         try clear c10b0
         try clear c10b1
         try clear c13
         try clear c13b0
         try clear c14
         try clear c14b0
         try clear c14b1
         try clear hx190_0
         try clear p190
         try clear q189
         try clear q190
         obtain ⟨x10_1, x52_1, rfl, rfl, HA, HK1, HB⟩ := hrel
         cases gk with
         | zero => exact absurd HA.out (by simp [nat_Shr.l0])
         | succ k1 =>
          have H := HA.out
          clear HA
          simp only [nat_Shr.l0] at H
          by_cases c16 : x52_1 < ((l0.take ((ji6) : Int).toNat).length : Int)
          ·rw [if_pos c16] at H
           have c16b0 : decide (x52_1 < ((l0.take ((ji6) : Int).toNat).length : Int)) = true := decide_eq_true c16
           (try (have c16m := c16b0; rw [hmx_ji6] at c16m))
           (try (have c16m := c16b0; rw [hmx_ji6] at c16m))
           (try (have c16m := c16b0; rw [hmx_ji6] at c16m))
           (try (have c16m := c16b0; rw [hmx_ji6] at c16m))
           clear c16
           by_cases c17 : 0 ≤ x52_1
           ·rw [if_pos c17] at H
            have c17b0 : decide (0 ≤ x52_1) = true := decide_eq_true c17
            clear c17
            by_cases c18 : x52_1 < ((l0.take ((ji6) : Int).toNat).length : Int)
            ·rw [if_pos c18] at H
             have c18b0 : decide (x52_1 < ((l0.take ((ji6) : Int).toNat).length : Int)) = true := decide_eq_true c18
             (try (have c18m := c18b0; rw [hmx_ji6] at c18m))
             (try (have c18m := c18b0; rw [hmx_ji6] at c18m))
             (try (have c18m := c18b0; rw [hmx_ji6] at c18m))
             (try (have c18m := c18b0; rw [hmx_ji6] at c18m))
             clear c18
             by_cases c19 : x10_1 = true
             ·subst c19
              have H1 : (nat_Shr.l0 k1 l0 ji6 ji9 true (l0.take ((ji6) : Int).toNat) ((l0.take ((ji6) : Int).toNat).length : Int) (wrap64 (x52_1 + 1))) = some (r1, r2, r3) := by rw [if_pos rfl] at H; exact H
              clear H
              have H := H1
              clear H1
              have H' := Aside0.mk H
              clear H
              have p192 : 0 ≤ (x52_1 : Int) := of_decide_eq_true (by first | (with_reducible assumption) | assumption)
              have q192 : x52_1 < ((l0.take ((ji6) : Int).toNat).length : Int) := of_decide_eq_true (by first | (with_reducible assumption) | assumption)
              obtain ⟨ad192, e192, hx192_0⟩ := Kd.at_int HR191.out x52_1 p192 q192
              obtain rfl : ad190 = ad192 := (by injection e192)
              replace hx192_0 := (HB.out.cell (World.block_lt_of_cell? w _ hx192_0)).trans hx192_0
              replace p192 := eq_true p192
              replace q192 := eq_true q192
              (try (have q192m := q192; rw [hmx_ji6] at q192m))
              (try (have q192m := q192; rw [hmx_ji6] at q192m))
              (try (have q192m := q192; rw [hmx_ji6] at q192m))
              (try (have q192m := q192; rw [hmx_ji6] at q192m))
              go_wp2
              go_roundg k1
              case measure => have := HK1.out; omega
              case rel => exact ⟨(true), (wrap64 (x52_1 + 1)), (by first | rfl | (simp; done) | (simp [*]; done)), (by first | rfl | (simp; done) | (simp [*]; done)), H', ⟨by have := HK1.out; omega⟩, ⟨by repeat (first | (with_reducible first | exact HB.out | apply below_alloc | apply pw_below_drewN | apply below_drew1) | exact HB.out)⟩⟩
             ·replace c19 := Bool.eq_false_iff.mpr c19
              subst c19
              have H1 : (nat_Shr.l0 k1 l0 ji6 ji9 ((rd (l0.take ((ji6) : Int).toNat) x52_1) != 0) (l0.take ((ji6) : Int).toNat) ((l0.take ((ji6) : Int).toNat).length : Int) (wrap64 (x52_1 + 1))) = some (r1, r2, r3) := by rw [if_neg (show ¬ (false = true) by decide)] at H; exact H
              clear H
              have H := H1
              clear H1
              have H' := Aside0.mk H
              clear H
              have p192 : 0 ≤ (x52_1 : Int) := of_decide_eq_true (by first | (with_reducible assumption) | assumption)
              have q192 : x52_1 < ((l0.take ((ji6) : Int).toNat).length : Int) := of_decide_eq_true (by first | (with_reducible assumption) | assumption)
              obtain ⟨ad192, e192, hx192_0⟩ := Kd.at_int HR191.out x52_1 p192 q192
              obtain rfl : ad190 = ad192 := (by injection e192)
              replace hx192_0 := (HB.out.cell (World.block_lt_of_cell? w _ hx192_0)).trans hx192_0
              replace p192 := eq_true p192
              replace q192 := eq_true q192
              (try (have q192m := q192; rw [hmx_ji6] at q192m))
              (try (have q192m := q192; rw [hmx_ji6] at q192m))
              (try (have q192m := q192; rw [hmx_ji6] at q192m))
              (try (have q192m := q192; rw [hmx_ji6] at q192m))
              go_wp2
              go_roundg k1
              case measure => have := HK1.out; omega
              case rel => exact ⟨(((rd (l0.take ((ji6) : Int).toNat) x52_1) != 0)), (wrap64 (x52_1 + 1)), (by first | rfl | (simp; done) | (simp only [← hji6] <;> (first | rfl | simp)) | (simp [*]; done)), (by first | rfl | (simp; done) | (simp [*]; done)), H', ⟨by have := HK1.out; omega⟩, ⟨by repeat (first | (with_reducible first | exact HB.out | apply below_alloc | apply pw_below_drewN | apply below_drew1) | exact HB.out)⟩⟩
            ·rw [if_neg c18] at H
             exact absurd H (by simp)
           ·rw [if_neg c17] at H
            exact absurd H (by simp)
          ·rw [if_neg c16] at H
           have c16b0 : decide (x52_1 < ((l0.take ((ji6) : Int).toNat).length : Int)) = false := decide_eq_false c16
           (try (have c16m := c16b0; rw [hmx_ji6] at c16m))
           (try (have c16m := c16b0; rw [hmx_ji6] at c16m))
           (try (have c16m := c16b0; rw [hmx_ji6] at c16m))
           (try (have c16m := c16b0; rw [hmx_ji6] at c16m))
           clear c16
           obtain ⟨ji20, hji20⟩ : ∃ j_ : Int, (wrap64 ((l0.length : Int) - ji6)) = j_ := ⟨_, rfl⟩
           replace H : (if 0 ≤ (ji20) then (if (ji20 : Int).toNat ≤ 35184372088832 then ((some (List.replicate (ji20 : Int).toNat 0 : List Int)).bind fun y193 => (nat_Shr.l1 k1 l0 ji6 ji9 x10_1 y193 (y193.length : Int) 0)) else (none)) else (none)) = some (r1, r2, r3) := by first | (rw [hji20] at H; exact H) | (simp only [hji20] at H ⊢; exact H)
           have hji20w : (IntKind.i64.wrap ((l0.length : Int) - ji6)) = ji20 := (i64_w _).trans hji20
           by_cases c21 : 0 ≤ (ji20)
           ·rw [if_pos c21] at H
            have c21b0 := eq_true c21
            have c21b1 : decide (0 ≤ (ji20)) = true := decide_eq_true c21
            clear c21
            by_cases c22 : (ji20 : Int).toNat ≤ 35184372088832
            ·rw [if_pos c22] at H
             have c22b0 := eq_true c22
             have c22b1 : decide ((ji20 : Int).toNat ≤ 35184372088832) = true := decide_eq_true c22
             clear c22
             obtain ⟨y193, hy193⟩ : ∃ y_ : List Int, y_ = (List.replicate (ji20 : Int).toNat 0) := ⟨_, rfl⟩
             replace H : (nat_Shr.l1 k1 l0 ji6 ji9 x10_1 y193 (y193.length : Int) 0) = some (r1, r2, r3) := by first | (rw [hy193]; with_reducible exact H) | (have H2_ := (Option.bind_some _ _).symm.trans H; rw [hy193]; with_reducible exact H2_) | (have H2_ := (Option.bind_some _ _).symm.trans H; with_reducible exact H2_) | with_reducible exact H | (rw [hy193]; exact H) | exact H
             have Ny193 := Aside0.mk hy193
             clear hy193
             have H' := Aside0.mk H
             clear H
             go_wp2_with (first | ((with_reducible refine gate_dst (N := 66) rfl ?_); (try (refine gate_guard (by rfl) ?_; dsimp only)); refine Kd.R_make (Kd.int .u64) _ 52 rfl (N := 66) rfl 23 _ _ rfl ji20 rfl rfl Tryd.underlying23 (.int .u64 0) 8 info52 rfl (by decide) (by omega) 0 (ok := fun _ => True) (okp := fun _ => True) rfl (fun _ hk => hk) trivial (of_decide_eq_true (by first | (with_reducible assumption) | assumption)) (Nat.le_trans (Nat.mul_le_mul_right _ (of_decide_eq_true (by first | (with_reducible assumption) | assumption) : ji20.toNat ≤ 35184372088832)) (by omega)) (Below.refl _ _) (Nat.le_refl _) ?_; intro v194 w23 ho24 hb hg_ hnew_; clear hg_ hnew_; (first | rw [← Ny193.out] at ho24 | (simp only [Int.reduceToNat] at ho24; rw [← Ny193.out] at ho24)); have n0_ := Aside0.mk (Kd.R_lower ho24 (below_size (by repeat (first | (with_reducible first | exact HB.out | apply below_alloc | apply pw_below_drewN | apply below_drew1) | exact HB.out)))); have n1_ := Aside0.mk (below_step (by repeat (first | (with_reducible first | exact HB.out | apply below_alloc | apply pw_below_drewN | apply below_drew1) | exact HB.out)) hb); clear HB; have HO195 := n0_; have HB := n1_; clear n0_ n1_; clear hb ho24; obtain ⟨Ao25, co25, eo25⟩ := Kd.R_slice HO195.out; subst eo25))
             go_loopg [69] k1 (fun kq v69 w' => ∃ (x13_2 : List Int) (x69_2 : Int), v69 = .int .i64 x69_2 ∧ Aside0 (nat_Shr.l1 kq l0 ji6 ji9 x10_1 x13_2 (y193.length : Int) x69_2 = some (r1, r2, r3)) ∧ Aside0 (kq ≤ k1) ∧ Aside0 (Kd.R (Kd.int .u64) 52 w' w.heap.size (fun _ => True) (.slice Ao25 y193.length co25) x13_2) ∧ Aside0 (Below w.heap.size w w'))
             case atStart => exact ⟨(y193), (0), (by first | rfl | (simp; done) | (simp [*]; done)), H', ⟨Nat.le_refl _⟩, ⟨by (with_reducible repeat (first | apply Kd.R_alloc | apply Kd.R_drewN | apply Kd.R_drew)); exact HO195.out⟩, ⟨by repeat (first | (with_reducible first | exact HB.out | apply below_alloc | apply pw_below_drewN | apply below_drew1) | exact HB.out)⟩⟩
             case round =>
              clear H'
              try clear c1
              try clear p1
              try clear q1
              try clear hx1
              try clear c2
              try clear p2
              try clear c4
              try clear c4b0
              try clear c5
              try clear c5b0
              try clear p6
              try clear c7
              try clear c7b0
              try clear c8
              try clear c8b0
              try clear c9
              try clear c10
              try clear c10b0
              try clear c10b1
              try clear c13
              try clear c13b0
              try clear c14
              try clear c14b0
              try clear c14b1
              try clear c16
              try clear c16b0
              try clear c17
              try clear c17b0
              try clear c18
              try clear c18b0
              try clear q18
              try clear c19
              try clear p19
              try clear q19
              try clear hx19
              try clear c21
              try clear c21b0
              try clear c21b1
              try clear c22
              try clear c22b0
              try clear c22b1
              try clear c25
              try clear hx190_0
              try clear hx192_0
              try clear p1
              try clear p190
              try clear p192
              try clear p2
              try clear p6
              try clear q1
              try clear q189
              try clear q190
              try clear q192
              obtain ⟨x13_2, x69_2, rfl, HA, HK2, HO_13, HB⟩ := hrel
              have hl13_2 := (Kd.R_reads' HO_13.out).1
              rw [hl13_2] at HO_13
              (try simp only [hl13_2])
              cases gk with
              | zero => exact absurd HA.out (by simp [nat_Shr.l1])
              | succ k2 =>
               have H := HA.out
               clear HA
               simp only [nat_Shr.l1] at H
               by_cases c26 : x69_2 < (y193.length : Int)
               ·rw [if_pos c26] at H
                have c26b0 : decide (x69_2 < (y193.length : Int)) = true := decide_eq_true c26
                clear c26
                obtain ⟨ji27, hji27⟩ : ∃ j_ : Int, (wrap64 (ji6 + x69_2)) = j_ := ⟨_, rfl⟩
                replace H : (if 0 ≤ (ji27) then (if (ji27) < (l0.length : Int) then (if 0 ≤ ji9 then (if 0 ≤ x69_2 then (if x69_2 < (x13_2.length : Int) then ((some (x13_2.set (x69_2 : Int).toNat (shr .u64 (rd l0 (ji27)) ji9) : List Int)).bind fun y197 => (if ji9 > 0 then (if (wrap64 ((ji27) + 1)) < (l0.length : Int) then (if 0 ≤ (wrap64 ((ji27) + 1)) then (if 0 ≤ (IntKind.u64.wrap (64 - ji9)) then (nat_Shr.l1 k2 l0 ji6 ji9 x10_1 (y197.set (x69_2 : Int).toNat (Go.bits .or .u64 (rd y197 x69_2) (shl .u64 (rd l0 (wrap64 ((ji27) + 1))) (IntKind.u64.wrap (64 - ji9))))) (y193.length : Int) (wrap64 (x69_2 + 1))) else (none)) else (none)) else (nat_Shr.l1 k2 l0 ji6 ji9 x10_1 y197 (y193.length : Int) (wrap64 (x69_2 + 1)))) else (nat_Shr.l1 k2 l0 ji6 ji9 x10_1 y197 (y193.length : Int) (wrap64 (x69_2 + 1))))) else (none)) else (none)) else (none)) else (none)) else (none)) = some (r1, r2, r3) := by first | (rw [hji27] at H; exact H) | (simp only [hji27] at H ⊢; exact H)
                have hji27w : (IntKind.i64.wrap (ji6 + x69_2)) = ji27 := (i64_w _).trans hji27
                by_cases c28 : 0 ≤ (ji27)
                ·rw [if_pos c28] at H
                 have c28b0 : decide (0 ≤ (ji27)) = true := decide_eq_true c28
                 clear c28
                 by_cases c29 : (ji27) < (l0.length : Int)
                 ·rw [if_pos c29] at H
                  have c29b0 : decide ((ji27) < (l0.length : Int)) = true := decide_eq_true c29
                  clear c29
                  by_cases c30 : 0 ≤ ji9
                  ·rw [if_pos c30] at H
                   have c30b0 := eq_true c30
                   have c30b1 : decide (0 ≤ ji9) = true := decide_eq_true c30
                   clear c30
                   obtain ⟨ji31, hji31⟩ : ∃ j_ : Int, (shr .u64 (rd l0 (ji27)) ji9) = j_ := ⟨_, rfl⟩
                   replace H : (if 0 ≤ x69_2 then (if x69_2 < (x13_2.length : Int) then ((some (x13_2.set (x69_2 : Int).toNat (ji31) : List Int)).bind fun y197 => (if ji9 > 0 then (if (wrap64 ((ji27) + 1)) < (l0.length : Int) then (if 0 ≤ (wrap64 ((ji27) + 1)) then (if 0 ≤ (IntKind.u64.wrap (64 - ji9)) then (nat_Shr.l1 k2 l0 ji6 ji9 x10_1 (y197.set (x69_2 : Int).toNat (Go.bits .or .u64 (rd y197 x69_2) (shl .u64 (rd l0 (wrap64 ((ji27) + 1))) (IntKind.u64.wrap (64 - ji9))))) (y193.length : Int) (wrap64 (x69_2 + 1))) else (none)) else (none)) else (nat_Shr.l1 k2 l0 ji6 ji9 x10_1 y197 (y193.length : Int) (wrap64 (x69_2 + 1)))) else (nat_Shr.l1 k2 l0 ji6 ji9 x10_1 y197 (y193.length : Int) (wrap64 (x69_2 + 1))))) else (none)) else (none)) = some (r1, r2, r3) := by first | (rw [hji31] at H; exact H) | (simp only [hji31] at H ⊢; exact H)
                   have hji31_ : ((rd l0 (ji27)) / 2 ^ min ji9.toNat 64) = ji31 := hji31
                   have hji31z : ji9 ≤ 64 → ((rd l0 (ji27)) / 2 ^ ji9.toNat) = ji31 := shr_small hji31
                   by_cases c32 : 0 ≤ x69_2
                   ·rw [if_pos c32] at H
                    have c32b0 : decide (0 ≤ x69_2) = true := decide_eq_true c32
                    clear c32
                    by_cases c33 : x69_2 < (x13_2.length : Int)
                    ·rw [if_pos c33] at H
                     have c33b0 : decide (x69_2 < (x13_2.length : Int)) = true := decide_eq_true c33
                     clear c33
                     obtain ⟨y197, hy197⟩ : ∃ y_ : List Int, y_ = (x13_2.set (x69_2 : Int).toNat (ji31)) := ⟨_, rfl⟩
                     replace H : (if ji9 > 0 then (if (wrap64 ((ji27) + 1)) < (l0.length : Int) then (if 0 ≤ (wrap64 ((ji27) + 1)) then (if 0 ≤ (IntKind.u64.wrap (64 - ji9)) then (nat_Shr.l1 k2 l0 ji6 ji9 x10_1 (y197.set (x69_2 : Int).toNat (Go.bits .or .u64 (rd y197 x69_2) (shl .u64 (rd l0 (wrap64 ((ji27) + 1))) (IntKind.u64.wrap (64 - ji9))))) (y193.length : Int) (wrap64 (x69_2 + 1))) else (none)) else (none)) else (nat_Shr.l1 k2 l0 ji6 ji9 x10_1 y197 (y193.length : Int) (wrap64 (x69_2 + 1)))) else (nat_Shr.l1 k2 l0 ji6 ji9 x10_1 y197 (y193.length : Int) (wrap64 (x69_2 + 1)))) = some (r1, r2, r3) := by first | (rw [hy197]; with_reducible exact H) | (have H2_ := (Option.bind_some _ _).symm.trans H; rw [hy197]; with_reducible exact H2_) | (have H2_ := (Option.bind_some _ _).symm.trans H; with_reducible exact H2_) | with_reducible exact H | (rw [hy197]; exact H) | exact H
                     have Ny197 := Aside0.mk hy197
                     clear hy197
                     by_cases c35 : ji9 > 0
                     ·rw [if_pos c35] at H
                      have c35b0 : decide (0 < ji9) = true := decide_eq_true c35
                      clear c35
                      by_cases c36 : (wrap64 ((ji27) + 1)) < (l0.length : Int)
                      ·rw [if_pos c36] at H
                       have c36b0 : decide ((wrap64 ((ji27) + 1)) < (l0.length : Int)) = true := decide_eq_true c36
                       clear c36
                       obtain ⟨ji37, hji37⟩ : ∃ j_ : Int, (wrap64 ((ji27) + 1)) = j_ := ⟨_, rfl⟩
                       replace H : (if 0 ≤ (ji37) then (if 0 ≤ (IntKind.u64.wrap (64 - ji9)) then (nat_Shr.l1 k2 l0 ji6 ji9 x10_1 (y197.set (x69_2 : Int).toNat (Go.bits .or .u64 (rd y197 x69_2) (shl .u64 (rd l0 (ji37)) (IntKind.u64.wrap (64 - ji9))))) (y193.length : Int) (wrap64 (x69_2 + 1))) else (none)) else (none)) = some (r1, r2, r3) := by first | (rw [hji37] at H; exact H) | (simp only [hji37] at H ⊢; exact H)
                       (try rw [hji37] at c36b0)
                       have hji37w : (IntKind.i64.wrap ((ji27) + 1)) = ji37 := (i64_w _).trans hji37
                       by_cases c38 : 0 ≤ (ji37)
                       ·rw [if_pos c38] at H
                        have c38b0 : decide (0 ≤ (ji37)) = true := decide_eq_true c38
                        clear c38
                        obtain ⟨ji39, hji39⟩ : ∃ j_ : Int, (IntKind.u64.wrap (64 - ji9)) = j_ := ⟨_, rfl⟩
                        replace H : (if 0 ≤ (ji39) then (nat_Shr.l1 k2 l0 ji6 ji9 x10_1 (y197.set (x69_2 : Int).toNat (Go.bits .or .u64 (rd y197 x69_2) (shl .u64 (rd l0 (ji37)) (ji39)))) (y193.length : Int) (wrap64 (x69_2 + 1))) else (none)) = some (r1, r2, r3) := by first | (rw [hji39] at H; exact H) | (simp only [hji39] at H ⊢; exact H)
                        by_cases c40 : 0 ≤ (ji39)
                        ·rw [if_pos c40] at H
                         have c40b0 := eq_true c40
                         have c40b1 : decide (0 ≤ (ji39)) = true := decide_eq_true c40
                         clear c40
                         obtain ⟨ji41, hji41⟩ : ∃ j_ : Int, (shl .u64 (rd l0 (ji37)) (ji39)) = j_ := ⟨_, rfl⟩
                         replace H : (nat_Shr.l1 k2 l0 ji6 ji9 x10_1 (y197.set (x69_2 : Int).toNat (Go.bits .or .u64 (rd y197 x69_2) (ji41))) (y193.length : Int) (wrap64 (x69_2 + 1))) = some (r1, r2, r3) := by first | (rw [hji41] at H; exact H) | (simp only [hji41] at H ⊢; exact H)
                         have hji41_ : (IntKind.u64.wrap ((rd l0 (ji37)) * 2 ^ min (ji39).toNat 64)) = ji41 := hji41
                         have hji41z : (ji39) ≤ 64 → (IntKind.u64.wrap ((rd l0 (ji37)) * 2 ^ (ji39).toNat)) = ji41 := shl_small hji41
                         obtain ⟨ji42, hji42⟩ : ∃ j_ : Int, (Go.bits .or .u64 (rd y197 x69_2) (ji41)) = j_ := ⟨_, rfl⟩
                         replace H : (nat_Shr.l1 k2 l0 ji6 ji9 x10_1 (y197.set (x69_2 : Int).toNat (ji42)) (y193.length : Int) (wrap64 (x69_2 + 1))) = some (r1, r2, r3) := by first | (rw [hji42] at H; exact H) | (simp only [hji42] at H ⊢; exact H)
                         obtain ⟨y200, hy200⟩ : ∃ y_ : List Int, y_ = (y197.set (x69_2 : Int).toNat (ji42)) := ⟨_, rfl⟩
                         replace H : (nat_Shr.l1 k2 l0 ji6 ji9 x10_1 y200 (y193.length : Int) (wrap64 (x69_2 + 1))) = some (r1, r2, r3) := by first | (rw [hy200]; with_reducible exact H) | (have H2_ := (Option.bind_some _ _).symm.trans H; rw [hy200]; with_reducible exact H2_) | (have H2_ := (Option.bind_some _ _).symm.trans H; with_reducible exact H2_) | with_reducible exact H | (rw [hy200]; exact H) | exact H
                         have Ny200 := Aside0.mk hy200
                         clear hy200
                         have H' := Aside0.mk H
                         clear H
                         have p196 : 0 ≤ ((ji27) : Int) := of_decide_eq_true (by first | (with_reducible assumption) | assumption)
                         have q196 : (ji27) < (l0.length : Int) := of_decide_eq_true (by first | (with_reducible assumption) | assumption)
                         obtain ⟨ad196, e196, hx196_0⟩ := Kd.at_int HR0.out (ji27) p196 q196
                         obtain rfl : ad190 = ad196 := (by injection e196)
                         replace hx196_0 := (HB.out.cell (World.block_lt_of_cell? w _ hx196_0)).trans hx196_0
                         replace p196 := eq_true p196
                         replace q196 := eq_true q196
                         have p34 : 0 ≤ (x69_2 : Int) := of_decide_eq_true (by first | (with_reducible assumption) | assumption)
                         have q34 : (x69_2 : Int) < ((x13_2.length : Int) : Int) := of_decide_eq_true (by first | (with_reducible assumption) | assumption)
                         obtain ⟨go34, co34, eo34, gb34, gl34, cl34, HG34⟩ := Kd.R_form HO_13.out (by omega)
                         (first | cases eo34 | (injection eo34 with ea_ en_ ec_; (first | subst ea_ | (injection ea_ with ea_; subst ea_)); subst ec_; clear en_))
                         have GB34 := Aside0.mk gb34
                         have GG34 := Aside0.mk HG34
                         clear gb34 gl34 HG34
                         obtain ⟨hx34_0, hf34_0⟩ := Kd.R_celln 0 HO_13.out (x69_2 : Int) p34 q34
                         replace p34 := eq_true p34
                         replace q34 := eq_true q34
                         have HP44 := Kd.R_putg HO_13.out (x69_2 : Int) ji31
                         try go_wp2_with (first | ((with_reducible refine gate_store (t := 52) (p := 82) rfl ?_); refine store_event (t := 52) (p := 82) (v := ?vo_w45) (w1 := (wr.setCell ⟨go34, (x69_2 : Int).toNat, none⟩ (.int .u64 ji31))) ?hg ?ho ?hn ?hr ?_; (case ho => rfl); (case hg => rfl); (case hn => rfl); (case hr => first | (go_simp; done) | (go_simp; rfl)); intro w45 hw; have hg : wr.grownBy w45 (some go34) := (by rw [hw]; exact HP44.2); have hp_ : Kd.R (Kd.int .u64) 52 w45 w.heap.size (fun _ => True) (.slice (some ⟨go34, 0, none⟩) x13_2.length co25) y197 := (by rw [hw, Ny197.out]; exact HP44.1); clear HP44; have n0_ := Aside0.mk (hp_); have n1_ := Aside0.mk ((by rw [hw]; exact below_set (HB.out) GB34.out : Below w.heap.size w w45)); clear HO_13; clear HB; have HO_13 := n0_; have HB := n1_; clear n0_ n1_; clear hg hw hp_))
                         have n0_ := Aside0.mk (Kd.R_drew HO_13.out)
                         have n1_ := Aside0.mk (below_drew1 HB.out)
                         clear HO_13
                         clear HB
                         have HO_13 := n0_
                         have HB := n1_
                         clear n0_ n1_
                         have p198 : 0 ≤ (x69_2 : Int) := of_decide_eq_true (by first | (with_reducible assumption) | assumption)
                         have q198 : x69_2 < (y197.length : Int) := (by have h_ : (x69_2 : Int) < ((x13_2.length : Int) : Int) := of_decide_eq_true (by first | (with_reducible assumption) | assumption); first | (have e_ := (Kd.R_reads' HO_13.out).1; omega) | simpa only [Ny197.out, List.length_set] using h_)
                         have ql198 : ((x69_2 : Int) < ((x13_2.length : Int) : Int)) = True := eq_true (of_decide_eq_true (by first | (with_reducible assumption) | assumption))
                         obtain ⟨ad198, e198, hx198_0⟩ := Kd.at_int (Kd.R_reads' HO_13.out).2.2 x69_2 p198 q198
                         obtain rfl : (⟨go34, 0, none⟩ : Addr) = ad198 := (by injection e198)
                         (first | simp only [add_plain] at hx198_0 | simp only [add_at] at hx198_0 | simp only [Addr.add, Nat.zero_add] at hx198_0 | skip)
                         replace p198 := eq_true p198
                         replace q198 := eq_true q198
                         have p199 : 0 ≤ ((ji37) : Int) := of_decide_eq_true (by first | (with_reducible assumption) | assumption)
                         have q199 : (ji37) < (l0.length : Int) := of_decide_eq_true (by first | (with_reducible assumption) | assumption)
                         obtain ⟨ad199, e199, hx199_0⟩ := Kd.at_int HR0.out (ji37) p199 q199
                         have hw199_0 := hx199_0
                         obtain rfl : ad190 = ad199 := (by injection e199)
                         replace hx199_0 := (HB.out.cell (World.block_lt_of_cell? w _ hx199_0)).trans hx199_0
                         replace p199 := eq_true p199
                         replace q199 := eq_true q199
                         have p43 : 0 ≤ (x69_2 : Int) := of_decide_eq_true (by first | (with_reducible assumption) | assumption)
                         have q43 : (x69_2 : Int) < ((x13_2.length : Int) : Int) := of_decide_eq_true (by first | (with_reducible assumption) | assumption)
                         obtain ⟨hx43_0, hf43_0⟩ := Kd.R_celln 0 HO_13.out (x69_2 : Int) p43 q43
                         replace p43 := eq_true p43
                         replace q43 := eq_true q43
                         have HP47 := Kd.R_putn HO_13.out (x69_2 : Int) ji42
                         rw [← Ny200.out] at HP47
                         have HQ47 := Aside0.mk HP47
                         clear HP47
                         refine start_ (n := 17) (S := fun w' => w'.cell? ⟨go34, (x69_2).toNat, none⟩ = some (.int .u64 (rd y197 x69_2)) ∧ w'.cell? (ad190.add ((ji37)).toNat) = some (.int .u64 (rd l0 (ji37)))) (ds := [16]) #[false, false, false, false, false, false, false, false, false, false, false, false, false, false, false, false, false] (by kernel_rfl) rfl rfl ⟨hx198_0, ((HB.out.cell (World.block_lt_of_cell? w _ hw199_0)).trans hw199_0)⟩ (fun hHeld => ?_); refine with_tabW nat_Shr.tab21 nat_Shr.bits21 (fun HT_ HW_ => ?_)
                         generalize w45.drew = w46 at HO_13 HB HQ47 hf43_0 hx198_0 hx199_0 hx43_0 hHeld ⊢
                         refine pure_ (i := 0) (N := some 94) (v := ?_) (a' := ?_) #[true, false, false, false, false, false, false, false, false, false, false, false, false, false, false, false, false] rfl rfl (any_of HT_.out (by kernel_rfl)) (fun _ _ _ h => h) (Or.inl ⟨by rfl, ?_⟩) ?_ ?_
                         rotate_left
                         ·intro w'
                          go_simp
                          with_reducible rfl
                         rotate_left
                         ·simp only [Act.put, List.setIfInBounds_toArray, List.set_cons_zero, List.set_cons_succ, i64_w, i32_w]
                          rfl
                         refine pure_ (i := 1) (N := some 95) (v := ?_) (a' := ?_) #[true, true, false, false, false, false, false, false, false, false, false, false, false, false, false, false, false] rfl rfl (any_of HT_.out (by kernel_rfl)) (fun _ _ _ h => h) (Or.inl ⟨by rfl, ?_⟩) ?_ ?_
                         rotate_left
                         ·intro w'
                          go_simp
                          with_reducible rfl
                         rotate_left
                         ·simp only [Act.put, List.setIfInBounds_toArray, List.set_cons_zero, List.set_cons_succ, i64_w, i32_w]
                          rfl
                         refine pure_ (i := 2) (N := some 96) (v := ?_) (a' := ?_) #[true, true, true, false, false, false, false, false, false, false, false, false, false, false, false, false, false] rfl rfl (any_of HT_.out (by kernel_rfl)) (fun _ _ _ h => h) (Or.inl ⟨by rfl, ?_⟩) ?_ ?_
                         rotate_left
                         ·intro w'
                          go_simp
                          with_reducible rfl
                         rotate_left
                         ·simp only [Act.put, List.setIfInBounds_toArray, List.set_cons_zero, List.set_cons_succ, i64_w, i32_w]
                          rfl
                         refine pure_ (i := 4) (N := some 98) (v := ?_) (a' := ?_) #[true, true, true, false, true, false, false, false, false, false, false, false, false, false, false, false, false] rfl rfl (any_of HT_.out (by kernel_rfl)) (fun _ _ _ h => h) (Or.inl ⟨by rfl, ?_⟩) ?_ ?_
                         rotate_left
                         ·intro w'
                          go_simp
                          with_reducible rfl
                         rotate_left
                         ·simp only [Act.put, List.setIfInBounds_toArray, List.set_cons_zero, List.set_cons_succ, i64_w, i32_w]
                          rfl
                         refine pure_ (i := 5) (N := some 99) (v := ?_) (a' := ?_) #[true, true, true, false, true, true, false, false, false, false, false, false, false, false, false, false, false] rfl rfl (any_of HT_.out (by kernel_rfl)) (fun _ _ _ h => h) (Or.inl ⟨by rfl, ?_⟩) ?_ ?_
                         rotate_left
                         ·intro w'
                          go_simp
                          with_reducible rfl
                         rotate_left
                         ·simp only [Act.put, List.setIfInBounds_toArray, List.set_cons_zero, List.set_cons_succ, i64_w, i32_w]
                          rfl
                         refine pure_ (i := 6) (N := some 100) (v := ?_) (a' := ?_) #[true, true, true, false, true, true, true, false, false, false, false, false, false, false, false, false, false] rfl rfl (any_of HT_.out (by kernel_rfl)) (fun _ _ _ h => h) (Or.inl ⟨by rfl, ?_⟩) ?_ ?_
                         rotate_left
                         ·intro w'
                          go_simp
                          with_reducible rfl
                         rotate_left
                         ·simp only [Act.put, List.setIfInBounds_toArray, List.set_cons_zero, List.set_cons_succ, i64_w, i32_w]
                          rfl
                         refine pure_ (i := 7) (N := some 101) (v := ?_) (a' := ?_) #[true, true, true, false, true, true, true, true, false, false, false, false, false, false, false, false, false] rfl rfl (any_of HT_.out (by kernel_rfl)) (fun _ _ _ h => h) (Or.inl ⟨by rfl, ?_⟩) ?_ ?_
                         rotate_left
                         ·intro w'
                          go_simp
                          with_reducible rfl
                         rotate_left
                         ·simp only [Act.put, List.setIfInBounds_toArray, List.set_cons_zero, List.set_cons_succ, i64_w, i32_w]
                          rfl
                         refine pure_ (i := 8) (N := some 102) (v := ?_) (a' := ?_) #[true, true, true, false, true, true, true, true, true, false, false, false, false, false, false, false, false] rfl rfl (any_of HT_.out (by kernel_rfl)) (fun _ _ _ h => h) (Or.inl ⟨by rfl, ?_⟩) ?_ ?_
                         rotate_left
                         ·intro w'
                          go_simp
                          with_reducible rfl
                         rotate_left
                         ·simp only [Act.put, List.setIfInBounds_toArray, List.set_cons_zero, List.set_cons_succ, i64_w, i32_w]
                          rfl
                         refine pure_ (i := 9) (N := some 103) (v := ?_) (a' := ?_) #[true, true, true, false, true, true, true, true, true, true, false, false, false, false, false, false, false] rfl rfl (any_of HT_.out (by kernel_rfl)) (fun _ _ _ h => h) (Or.inl ⟨by rfl, ?_⟩) ?_ ?_
                         rotate_left
                         ·intro w'
                          go_simp
                          with_reducible rfl
                         rotate_left
                         ·simp only [Act.put, List.setIfInBounds_toArray, List.set_cons_zero, List.set_cons_succ, i64_w, i32_w]
                          rfl
                         refine pure_ (i := 11) (N := some 105) (v := ?_) (a' := ?_) #[true, true, true, false, true, true, true, true, true, true, false, true, false, false, false, false, false] rfl rfl (any_of HT_.out (by kernel_rfl)) (fun _ _ _ h => h) (Or.inl ⟨by rfl, ?_⟩) ?_ ?_
                         rotate_left
                         ·intro w'
                          go_simp
                          with_reducible rfl
                         rotate_left
                         ·simp only [Act.put, List.setIfInBounds_toArray, List.set_cons_zero, List.set_cons_succ, i64_w, i32_w]
                          rfl
                         refine pure_ (i := 12) (N := some 106) (v := ?_) (a' := ?_) #[true, true, true, false, true, true, true, true, true, true, false, true, true, false, false, false, false] rfl rfl (any_of HT_.out (by kernel_rfl)) (fun _ _ _ h => h) (Or.inl ⟨by rfl, ?_⟩) ?_ ?_
                         rotate_left
                         ·intro w'
                          go_simp
                          with_reducible rfl
                         rotate_left
                         ·simp only [Act.put, List.setIfInBounds_toArray, List.set_cons_zero, List.set_cons_succ, i64_w, i32_w]
                          rfl
                         refine take_ (i := 3) (N := some 97) (v := ?_) (a' := ?_) #[true, true, true, true, true, true, true, true, true, true, false, true, true, false, false, false, false] rfl rfl (take_ofW HT_.out HW_.out (by kernel_rfl)) (fun _ _ _ h => h) (Or.inl ⟨by rfl, ?_⟩) hHeld ?_ ?_
                         rotate_left
                         ·rintro w' ⟨s0, s1⟩
                          go_simp
                          with_reducible rfl
                         rotate_left
                         ·simp only [Act.put, List.setIfInBounds_toArray, List.set_cons_zero, List.set_cons_succ, i64_w, i32_w]
                          rfl
                         refine take_ (i := 10) (N := some 104) (v := ?_) (a' := ?_) #[true, true, true, true, true, true, true, true, true, true, true, true, true, false, false, false, false] rfl rfl (take_ofW HT_.out HW_.out (by kernel_rfl)) (fun _ _ _ h => h) (Or.inl ⟨by rfl, ?_⟩) hHeld ?_ ?_
                         rotate_left
                         ·rintro w' ⟨s0, s1⟩
                          go_simp
                          with_reducible rfl
                         rotate_left
                         ·simp only [Act.put, List.setIfInBounds_toArray, List.set_cons_zero, List.set_cons_succ, i64_w, i32_w]
                          rfl
                         refine pure_ (i := 13) (N := some 107) (v := ?_) (a' := ?_) #[true, true, true, true, true, true, true, true, true, true, true, true, true, true, false, false, false] rfl rfl (any_of HT_.out (by kernel_rfl)) (fun _ _ _ h => h) (Or.inl ⟨by rfl, ?_⟩) ?_ ?_
                         rotate_left
                         ·intro w'
                          go_simp
                          with_reducible rfl
                         rotate_left
                         ·simp only [Act.put, List.setIfInBounds_toArray, List.set_cons_zero, List.set_cons_succ, i64_w, i32_w]
                          rfl
                         refine pure_ (i := 14) (N := some 108) (v := ?_) (a' := ?_) #[true, true, true, true, true, true, true, true, true, true, true, true, true, true, true, false, false] rfl rfl (any_of HT_.out (by kernel_rfl)) (fun _ _ _ h => h) (Or.inl ⟨by rfl, ?_⟩) ?_ ?_
                         rotate_left
                         ·intro w'
                          go_simp
                          with_reducible rfl
                         rotate_left
                         ·simp only [Act.put, List.setIfInBounds_toArray, List.set_cons_zero, List.set_cons_succ, i64_w, i32_w]
                          rfl
                         refine pure_ (i := 15) (N := some 109) (v := ?_) (a' := ?_) #[true, true, true, true, true, true, true, true, true, true, true, true, true, true, true, true, false] rfl rfl (any_of HT_.out (by kernel_rfl)) (fun _ _ _ h => h) (Or.inl ⟨by rfl, ?_⟩) ?_ ?_
                         rotate_left
                         ·intro w'
                          go_simp
                          with_reducible rfl
                         rotate_left
                         ·simp only [Act.put, List.setIfInBounds_toArray, List.set_cons_zero, List.set_cons_succ, i64_w, i32_w]
                          rfl
                         refine last_ (i := 16) (N := none) #[true, true, true, true, true, true, true, true, true, true, true, true, true, true, true, true, true] rfl rfl (one_of HT_.out (by kernel_rfl)) (by decide) (fun K hK => ?_)
                         refine skip_ (w1 := ?_) (by rfl) rfl ?_ ?_
                         rotate_left
                         ·go_simp
                          rfl
                         refine hK.out _ _ ?_
                         clear hK K
                         refine done_ (done_of HT_.out (by kernel_rfl)) ?_
                         try go_wp2
                         (try simp only [← hl13_2])
                         go_roundg k2
                         case measure => have := HK1.out; have := HK2.out; omega
                         case rel => exact ⟨(y200), (wrap64 (x69_2 + 1)), (by first | rfl | (simp; done) | (simp [*]; done)), H', ⟨by have := HK1.out; have := HK2.out; omega⟩, ⟨by (try simp only [hl13_2]); (with_reducible repeat (first | apply Kd.R_alloc | apply Kd.R_drewN | apply Kd.R_drew)); exact HQ47.out⟩, ⟨by repeat (first | (with_reducible first | exact HB.out | apply below_alloc | apply pw_below_drewN | apply below_drew1 | refine below_set ?_ GB34.out) | exact HB.out)⟩⟩
                        ·rw [if_neg c40] at H
                         exact absurd H (by simp)
                       ·rw [if_neg c38] at H
                        exact absurd H (by simp)
                      ·rw [if_neg c36] at H
                       have c36b0 : decide ((wrap64 ((ji27) + 1)) < (l0.length : Int)) = false := decide_eq_false c36
                       clear c36
                       have H' := Aside0.mk H
                       clear H
                       have p196 : 0 ≤ ((ji27) : Int) := of_decide_eq_true (by first | (with_reducible assumption) | assumption)
                       have q196 : (ji27) < (l0.length : Int) := of_decide_eq_true (by first | (with_reducible assumption) | assumption)
                       obtain ⟨ad196, e196, hx196_0⟩ := Kd.at_int HR0.out (ji27) p196 q196
                       obtain rfl : ad190 = ad196 := (by injection e196)
                       replace hx196_0 := (HB.out.cell (World.block_lt_of_cell? w _ hx196_0)).trans hx196_0
                       replace p196 := eq_true p196
                       replace q196 := eq_true q196
                       have p34 : 0 ≤ (x69_2 : Int) := of_decide_eq_true (by first | (with_reducible assumption) | assumption)
                       have q34 : (x69_2 : Int) < ((x13_2.length : Int) : Int) := of_decide_eq_true (by first | (with_reducible assumption) | assumption)
                       obtain ⟨go34, co34, eo34, gb34, gl34, cl34, HG34⟩ := Kd.R_form HO_13.out (by omega)
                       (first | cases eo34 | (injection eo34 with ea_ en_ ec_; (first | subst ea_ | (injection ea_ with ea_; subst ea_)); subst ec_; clear en_))
                       have GB34 := Aside0.mk gb34
                       have GG34 := Aside0.mk HG34
                       clear gb34 gl34 HG34
                       obtain ⟨hx34_0, hf34_0⟩ := Kd.R_celln 0 HO_13.out (x69_2 : Int) p34 q34
                       replace p34 := eq_true p34
                       replace q34 := eq_true q34
                       have HP48 := Kd.R_putg HO_13.out (x69_2 : Int) ji31
                       go_wp2_with (first | ((with_reducible refine gate_store (t := 52) (p := 82) rfl ?_); refine store_event (t := 52) (p := 82) (v := ?vo_w49) (w1 := (wr.setCell ⟨go34, (x69_2 : Int).toNat, none⟩ (.int .u64 ji31))) ?hg ?ho ?hn ?hr ?_; (case ho => rfl); (case hg => rfl); (case hn => rfl); (case hr => first | (go_simp; done) | (go_simp; rfl)); intro w49 hw; have hg : wr.grownBy w49 (some go34) := (by rw [hw]; exact HP48.2); have hp_ : Kd.R (Kd.int .u64) 52 w49 w.heap.size (fun _ => True) (.slice (some ⟨go34, 0, none⟩) x13_2.length co25) y197 := (by rw [hw, Ny197.out]; exact HP48.1); clear HP48; have n0_ := Aside0.mk (hp_); have n1_ := Aside0.mk ((by rw [hw]; exact below_set (HB.out) GB34.out : Below w.heap.size w w49)); clear HO_13; clear HB; have HO_13 := n0_; have HB := n1_; clear n0_ n1_; clear hg hw hp_))
                       (try simp only [← hl13_2])
                       go_roundg k2
                       case measure => have := HK1.out; have := HK2.out; omega
                       case rel => exact ⟨(y197), (wrap64 (x69_2 + 1)), (by first | rfl | (simp; done) | (simp [*]; done)), H', ⟨by have := HK1.out; have := HK2.out; omega⟩, ⟨by (try simp only [hl13_2]); (with_reducible repeat (first | apply Kd.R_alloc | apply Kd.R_drewN | apply Kd.R_drew)); exact HO_13.out⟩, ⟨by repeat (first | (with_reducible first | exact HB.out | apply below_alloc | apply pw_below_drewN | apply below_drew1) | exact HB.out)⟩⟩
                     ·rw [if_neg c35] at H
                      have c35b0 : decide (0 < ji9) = false := decide_eq_false c35
                      clear c35
                      have H' := Aside0.mk H
                      clear H
                      have p196 : 0 ≤ ((ji27) : Int) := of_decide_eq_true (by first | (with_reducible assumption) | assumption)
                      have q196 : (ji27) < (l0.length : Int) := of_decide_eq_true (by first | (with_reducible assumption) | assumption)
                      obtain ⟨ad196, e196, hx196_0⟩ := Kd.at_int HR0.out (ji27) p196 q196
                      obtain rfl : ad190 = ad196 := (by injection e196)
                      replace hx196_0 := (HB.out.cell (World.block_lt_of_cell? w _ hx196_0)).trans hx196_0
                      replace p196 := eq_true p196
                      replace q196 := eq_true q196
                      have p34 : 0 ≤ (x69_2 : Int) := of_decide_eq_true (by first | (with_reducible assumption) | assumption)
                      have q34 : (x69_2 : Int) < ((x13_2.length : Int) : Int) := of_decide_eq_true (by first | (with_reducible assumption) | assumption)
                      obtain ⟨go34, co34, eo34, gb34, gl34, cl34, HG34⟩ := Kd.R_form HO_13.out (by omega)
                      (first | cases eo34 | (injection eo34 with ea_ en_ ec_; (first | subst ea_ | (injection ea_ with ea_; subst ea_)); subst ec_; clear en_))
                      have GB34 := Aside0.mk gb34
                      have GG34 := Aside0.mk HG34
                      clear gb34 gl34 HG34
                      obtain ⟨hx34_0, hf34_0⟩ := Kd.R_celln 0 HO_13.out (x69_2 : Int) p34 q34
                      replace p34 := eq_true p34
                      replace q34 := eq_true q34
                      have HP50 := Kd.R_putg HO_13.out (x69_2 : Int) ji31
                      go_wp2_with (first | ((with_reducible refine gate_store (t := 52) (p := 82) rfl ?_); refine store_event (t := 52) (p := 82) (v := ?vo_w51) (w1 := (wr.setCell ⟨go34, (x69_2 : Int).toNat, none⟩ (.int .u64 ji31))) ?hg ?ho ?hn ?hr ?_; (case ho => rfl); (case hg => rfl); (case hn => rfl); (case hr => first | (go_simp; done) | (go_simp; rfl)); intro w51 hw; have hg : wr.grownBy w51 (some go34) := (by rw [hw]; exact HP50.2); have hp_ : Kd.R (Kd.int .u64) 52 w51 w.heap.size (fun _ => True) (.slice (some ⟨go34, 0, none⟩) x13_2.length co25) y197 := (by rw [hw, Ny197.out]; exact HP50.1); clear HP50; have n0_ := Aside0.mk (hp_); have n1_ := Aside0.mk ((by rw [hw]; exact below_set (HB.out) GB34.out : Below w.heap.size w w51)); clear HO_13; clear HB; have HO_13 := n0_; have HB := n1_; clear n0_ n1_; clear hg hw hp_))
                      (try simp only [← hl13_2])
                      go_roundg k2
                      case measure => have := HK1.out; have := HK2.out; omega
                      case rel => exact ⟨(y197), (wrap64 (x69_2 + 1)), (by first | rfl | (simp; done) | (simp [*]; done)), H', ⟨by have := HK1.out; have := HK2.out; omega⟩, ⟨by (try simp only [hl13_2]); (with_reducible repeat (first | apply Kd.R_alloc | apply Kd.R_drewN | apply Kd.R_drew)); exact HO_13.out⟩, ⟨by repeat (first | (with_reducible first | exact HB.out | apply below_alloc | apply pw_below_drewN | apply below_drew1) | exact HB.out)⟩⟩
                    ·rw [if_neg c33] at H
                     exact absurd H (by simp)
                   ·rw [if_neg c32] at H
                    exact absurd H (by simp)
                  ·rw [if_neg c30] at H
                   exact absurd H (by simp)
                 ·rw [if_neg c29] at H
                  exact absurd H (by simp)
                ·rw [if_neg c28] at H
                 exact absurd H (by simp)
               ·rw [if_neg c26] at H
                have c26b0 : decide (x69_2 < (y193.length : Int)) = false := decide_eq_false c26
                (try rw [hl13_2] at c26b0)
                clear c26
                replace H := Option.bind_eq_some_iff.mp H
                obtain ⟨t201, A520, H⟩ := H
                replace H : (some (t201, x10_1, none)) = some (r1, r2, r3) := H
                have A52 := Aside0.mk A520
                clear A520
                simp only [Option.some.injEq, Prod.mk.injEq] at H
                obtain ⟨rfl, rfl, rfl⟩ := H
                go_wp2_with (first | ((with_reducible refine gate_callee (f := 31) rfl ?_); refine goesL_ (some 112) rfl rfl Tryd.func31 (by kernel_rfl) rfl #[.slice Ao25 x13_2.length co25] rfl (by (try simp only [List.map_toArray, List.map_cons, List.map_nil]); first | done | rfl | (simp only [List.length_drop, List.length_take]; rfl)) ?_; (with_reducible refine (nat_trim.calls k2 (fun k_ => some k_ = (.slice Ao25 x13_2.length co25 : Value).ownBlock) (.slice Ao25 x13_2.length co25) x13_2 t201 w _ ?side1 ?side2 A52.out).mono ?_); (case side1 => repeat (first | (with_reducible first | exact HB.out | apply below_alloc | apply pw_below_drewN | apply below_drew1) | exact HB.out)); (case side2 => exact Kd.R_tight rfl HO_13.out); rintro e w53 ⟨v202, rfl, ho0, hb, hkp⟩; refine ⟨_, rfl, ?_⟩; have n0_ := Aside0.mk (Kd.Q_mono (ok' := fun k_ => True) ho0 (fun k_ hk_ => trivial)); have n1_ := Aside0.mk (hb); clear HB; clear HO_13; have HO203 := n0_; have HB := n1_; clear n0_ n1_; (try clear hb); (try clear hkp); (try clear ho0)))
                go_ret3
                exact ⟨_, by first | rfl | (simp [errW_none, errW_some] <;> rfl) | (simp only [← hji6, ← hji9, ← hji11, ← hji12, ← hji20]; first | rfl | (simp [errW_none, errW_some] <;> rfl)) | (simp [*, errW_none, errW_some] <;> rfl), by (with_reducible repeat (first | apply Kd.Q_alloc | apply Kd.Q_drewN | apply Kd.Q_drew)); exact HO203.out, by repeat (first | (with_reducible first | exact HB.out | apply below_alloc | apply pw_below_drewN | apply below_drew1) | exact HB.out)⟩
            ·rw [if_neg c22] at H
             exact absurd H (by simp)
           ·rw [if_neg c21] at H
            exact absurd H (by simp)
       ·rw [if_neg c14] at H
        exact absurd H (by simp)
      ·rw [if_neg c10] at H
       exact absurd H (by simp)
     ·rw [if_neg c8] at H
      exact absurd H (by simp)
    ·rw [if_neg c7] at H
     exact absurd H (by simp)
 ·have H1 : (some (([] : List Int), false, some q189)) = some (r1, r2, r3) := by rw [if_neg (show ¬ (some q189).isNone = true by simp)] at H; exact H
  clear H
  have H := H1
  clear H1
  try simp only [errW_none, errW_some]
  simp only [Option.some.injEq, Prod.mk.injEq] at H
  obtain ⟨rfl, rfl, rfl⟩ := H
  go_enter Tryd.func9, Tryd.ntmps9
  go_wp2_with (first | ((with_reducible refine gate_callee (f := 25) rfl ?_); refine goesL_ (some 16) rfl rfl Tryd.func25 (by kernel_rfl) rfl #[.slice A0 l0.length c0] rfl (by (try simp only [List.map_toArray, List.map_cons, List.map_nil]); first | done | rfl | (simp only [List.length_drop, List.length_take]; rfl)) ?_; (with_reducible refine (nat_Valid.calls _ _ l0 (some q189) _ ?side1 ?side2 A3.out).mono ?_); (case side1 => repeat (first | exact HR0.out | (with_reducible refine Kd.C_alloc ?_ _) | (with_reducible refine Kd.C_drewN ?_ _) | (with_reducible refine Kd.C_drew ?_))); (case side2 => exact HC0.out); rintro e w' ⟨rfl, ⟨nd, rfl⟩⟩; refine ⟨_, rfl, ?_⟩; (try simp only [errW_none, errW_some])))
  go_ret3
  exact ⟨_, by first | rfl | (simp [errW_none, errW_some] <;> rfl) | (simp [*, errW_none, errW_some] <;> rfl), Kd.Q_of_R (by first | exact Kd.R_nil _ _ _ _ _ | exact Kd.N_nil _ _ _ _ _ | exact Kd.V_nil _ _ _ _ _ | exact Kd.Q_nil _ _ _ _ _ | exact Kd.S_nil _ _ _ _ _), by repeat (first | (with_reducible first | exact HB.out | apply below_alloc | apply pw_below_drewN | apply below_drew1) | exact HB.out)⟩

end Go.Proofs.YtemjpmgfbnlkjaaDoor.Xs
