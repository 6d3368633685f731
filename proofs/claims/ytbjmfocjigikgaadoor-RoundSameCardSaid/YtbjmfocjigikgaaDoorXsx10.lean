-- PRINTED by print.py (a twelfth state) out of the translation. Not trusted: Lean checks it.
import Derived.Test.YtbjmfocjigikgaaDoorXsx0
import Derived.Test.YtbjmfocjigikgaaDoorXsx1
import Derived.Test.YtbjmfocjigikgaaDoorXsx6
import Derived.Test.YtbjmfocjigikgaaDoorXsx7
import Derived.Test.YtbjmfocjigikgaaDoorXsx8
import Derived.Test.YtbjmfocjigikgaaDoorXsx9
namespace Go.Proofs.YtbjmfocjigikgaaDoor.Xs
open Go.RowKit Go.Proofs.YtbjmfocjigikgaaDoorW.PrintWords Go.Proofs.YtbjmfocjigikgaaDoorW.PrintLast Go.Proofs.YtbjmfocjigikgaaDoorW.PrintMore
attribute [local go_sem] max2_int min2_int max_two min_two max_three min_three max_four min_four   -- for this text's walks alone
set_option linter.unusedVariables false
set_option linter.unusedSimpArgs false

/-! ### numerallaw12_RoundSame: function 6 -/
def numerallaw12_RoundSame.j0 : Nat → Int → Int → Bool → Int → Bool → List Int → List Int → Int → Option (Bool)
 | 0, _, _, _, _, _, _, _, _ => none
 | k + 1, x1, x2, x64, x310000, x310001, x310002, x310003, x310004 => if x64 = true then ((numerallaw12_works.f k).bind fun t312 => (some t312)) else ((numerallaw12_twin.f x310002).bind fun t313 => ((numerallaw12_twin.f x310003).bind fun t316 => ((round_Ratio.f k x310000 x310001 t313 t316 x310004).bind fun bt319 => ((numerallaw12_twin.f x310002).bind fun t321 => ((nat_Of.f k x1).bind fun t324 => ((nat_Mul.f k t321 t324).bind fun bt327 => ((numerallaw12_twin.f x310003).bind fun t331 => ((nat_Of.f k x1).bind fun t334 => ((nat_Mul.f k t331 t334).bind fun bt337 => ((nat_Shl.f k bt327.1 x2).bind fun bt341 => ((round_Ratio.f k x310000 x310001 bt327.1 bt337.1 x310004).bind fun bt345 => ((round_Ratio.f k x310000 x310001 bt341.1 bt337.1 (wrap64 (x310004 - x2))).bind fun bt347 => (if bt327.2.isNone = true then (if bt337.2.isNone = true then (if bt341.2.isNone = true then (if bt319.1 = bt345.1 then (if bt319.1 = bt347.1 then ((numerallaw12_num.f bt319.2).bind fun t352 => ((numerallaw12_num.f bt345.2).bind fun t353 => (if t352 = t353 then ((numerallaw12_num.f bt319.2).bind fun t354 => ((numerallaw12_num.f bt347.2).bind fun t355 => (if t354 = t355 then ((numerallaw12_works.f k).bind fun t356 => (some t356)) else (none)))) else (none)))) else (none)) else (none)) else (none)) else (none)) else (none))))))))))))))
def numerallaw12_RoundSame.f (k : Nat) (a0_0 : Int) (a0_1 : Bool) (l0_2 : List Int) (l0_3 : List Int) (a0_4 : Int) (a1 : Int) (a2 : Int) : Option (Bool) := if (l0_2.length : Int) > 40 then (numerallaw12_RoundSame.j0 k a1 (Int.tmod (wrap64 ((Int.tmod a2 100) + 100)) 100) true a0_0 a0_1 l0_2 l0_3 a0_4) else (if (l0_3.length : Int) > 40 then (numerallaw12_RoundSame.j0 k a1 (Int.tmod (wrap64 ((Int.tmod a2 100) + 100)) 100) true a0_0 a0_1 l0_2 l0_3 a0_4) else ((numeralref02_Valid.f l0_2).bind fun t310 => (if t310 = 0 then ((numeralref02_Valid.f l0_3).bind fun t311 => (if t311 = 0 then (if (l0_3.length : Int) = 0 then (numerallaw12_RoundSame.j0 k a1 (Int.tmod (wrap64 ((Int.tmod a2 100) + 100)) 100) true a0_0 a0_1 l0_2 l0_3 a0_4) else (if a1 = 0 then (numerallaw12_RoundSame.j0 k a1 (Int.tmod (wrap64 ((Int.tmod a2 100) + 100)) 100) true a0_0 a0_1 l0_2 l0_3 a0_4) else (if a0_4 > 1073741824 then (numerallaw12_RoundSame.j0 k a1 (Int.tmod (wrap64 ((Int.tmod a2 100) + 100)) 100) true a0_0 a0_1 l0_2 l0_3 a0_4) else (numerallaw12_RoundSame.j0 k a1 (Int.tmod (wrap64 ((Int.tmod a2 100) + 100)) 100) (decide (a0_4 < (-1073741824))) a0_0 a0_1 l0_2 l0_3 a0_4)))) else (numerallaw12_RoundSame.j0 k a1 (Int.tmod (wrap64 ((Int.tmod a2 100) + 100)) 100) true a0_0 a0_1 l0_2 l0_3 a0_4))) else (numerallaw12_RoundSame.j0 k a1 (Int.tmod (wrap64 ((Int.tmod a2 100) + 100)) 100) true a0_0 a0_1 l0_2 l0_3 a0_4))))
def numerallaw12_RoundSame.T4 : Bool × List (List Nat × List Nat) := (true, [([], []), ([0], [0]), ([], []), ([2], [2]), ([], []), ([4], [4]), ([5], [5]), ([], []), ([7], [7]), ([8, 6], [8]), ([], []), ([10], [10]), ([1, 3, 6, 9, 11, 9], [1, 3, 6, 9, 11]), ([12], [12]), ([13], [13]), ([13], [13]), ([14, 12, 0, 1, 2, 3, 4, 5, 6, 7, 8, 9, 10, 11, 12, 13, 14], [14]), ([15, 16, 0, 1, 2, 3, 4, 5, 6, 7, 8, 9, 10, 11, 12, 13, 14, 15, 16], [15])])
def numerallaw12_RoundSame.B4 : List Nat := [0, 1, 0, 4, 0, 16, 48, 0, 128, 496, 0, 1024, 4095, 8191, 16383, 16383, 32767, 131071]
theorem numerallaw12_RoundSame.tab4 : rtab .any (opsOf Tryd.f6 4) = numerallaw12_RoundSame.T4 := by kernel_rfl
theorem numerallaw12_RoundSame.bits4 : waitsOk numerallaw12_RoundSame.T4.2 numerallaw12_RoundSame.B4 = true := by kernel_rfl
set_option maxHeartbeats 8000000 in
set_option maxRecDepth 100000 in
theorem numerallaw12_RoundSame.calls (k : Nat) (a0_0 : Int) (a0_1 : Bool) (A0_2 : Option Addr) (c0_2 : Nat) (l0_2 : List Int) (A0_3 : Option Addr) (c0_3 : Nat) (l0_3 : List Int) (a0_4 : Int) (a1 : Int) (a2 : Int) (r : Bool) (w : World) (hr0_2 : Kd.C (Kd.int .u64) w A0_2 l0_2.length l0_2) (hc0_2 : l0_2.length ≤ c0_2) (hr0_3 : Kd.C (Kd.int .u64) w A0_3 l0_3.length l0_3) (hc0_3 : l0_3.length ≤ c0_3) (hl_DB64 : Laid_DB64 w) (h : numerallaw12_RoundSame.f k a0_0 a0_1 l0_2 l0_3 a0_4 a1 a2 = some r) :
  Calls Tryd.prog 6 #[.agg #[.int .i64 a0_0, .bool a0_1, .slice A0_2 l0_2.length c0_2, .slice A0_3 l0_3.length c0_3, .int .i64 a0_4], .int .u64 a1, .int .i64 a2] w fun e w' => e = .returned (.bool r) ∧ Below w.heap.size w w' := by
 have hu24 := Tryd.underlying24
 have hu29 := Tryd.underlying29
 have hu55 := Tryd.underlying55
 have HR0_2 := Aside0.mk hr0_2
 have HC0_2 := Aside0.mk hc0_2
 clear hr0_2 hc0_2
 have HR0_3 := Aside0.mk hr0_3
 have HC0_3 := Aside0.mk hc0_3
 clear hr0_3 hc0_3
 have HB := Aside0.mk (Below.refl w.heap.size w)
 have HL_DB64 := Aside0.mk hl_DB64
 clear hl_DB64
 have H : (if (l0_2.length : Int) > 40 then (numerallaw12_RoundSame.j0 k a1 (Int.tmod (wrap64 ((Int.tmod a2 100) + 100)) 100) true a0_0 a0_1 l0_2 l0_3 a0_4) else (if (l0_3.length : Int) > 40 then (numerallaw12_RoundSame.j0 k a1 (Int.tmod (wrap64 ((Int.tmod a2 100) + 100)) 100) true a0_0 a0_1 l0_2 l0_3 a0_4) else ((numeralref02_Valid.f l0_2).bind fun t310 => (if t310 = 0 then ((numeralref02_Valid.f l0_3).bind fun t311 => (if t311 = 0 then (if (l0_3.length : Int) = 0 then (numerallaw12_RoundSame.j0 k a1 (Int.tmod (wrap64 ((Int.tmod a2 100) + 100)) 100) true a0_0 a0_1 l0_2 l0_3 a0_4) else (if a1 = 0 then (numerallaw12_RoundSame.j0 k a1 (Int.tmod (wrap64 ((Int.tmod a2 100) + 100)) 100) true a0_0 a0_1 l0_2 l0_3 a0_4) else (if a0_4 > 1073741824 then (numerallaw12_RoundSame.j0 k a1 (Int.tmod (wrap64 ((Int.tmod a2 100) + 100)) 100) true a0_0 a0_1 l0_2 l0_3 a0_4) else (numerallaw12_RoundSame.j0 k a1 (Int.tmod (wrap64 ((Int.tmod a2 100) + 100)) 100) (decide (a0_4 < (-1073741824))) a0_0 a0_1 l0_2 l0_3 a0_4)))) else (numerallaw12_RoundSame.j0 k a1 (Int.tmod (wrap64 ((Int.tmod a2 100) + 100)) 100) true a0_0 a0_1 l0_2 l0_3 a0_4))) else (numerallaw12_RoundSame.j0 k a1 (Int.tmod (wrap64 ((Int.tmod a2 100) + 100)) 100) true a0_0 a0_1 l0_2 l0_3 a0_4))))) = some r := h
 clear h
 have HC4 := Aside0.mk H
 clear H
 go_enter Tryd.func6, Tryd.ntmps6
 go_upto_region 2 with (first | ((with_reducible refine gate_dst (N := 3) rfl ?_); (try (refine gate_guard (by rfl) ?_; dsimp only)); refine box_event ?hg (N := 3) ?hd (cs := #[.int .i64 a0_0, .bool a0_1, .slice A0_2 l0_2.length c0_2, .slice A0_3 l0_3.length c0_3, .int .i64 a0_4]) (t := 24) ?hr ?_; (case hd => rfl); (case hg => rfl); (case hr => first | (go_simp; done) | (go_simp; rfl)); intro gb309 hg w5 hbox hb; have n0_ := Aside0.mk (below_step (by repeat (first | (with_reducible first | exact HB.out | apply below_alloc | apply pw_below_drewN | apply below_drew1) | exact HB.out)) hb); have n1_ := Aside0.mk (hbox); have n2_ := Aside0.mk ((by rw [hg]; exact (below_size (by repeat (first | (with_reducible first | exact HB.out | apply below_alloc | apply pw_below_drewN | apply below_drew1) | exact HB.out))) : w.heap.size ≤ gb309)); have n3_ := Aside0.mk ((by rw [hg]; exact (below_size (by repeat (first | (with_reducible first | exact HB.out | apply below_alloc | apply pw_below_drewN | apply below_drew1) | exact HB.out))) : w.heap.size ≤ gb309)); clear HB; have HB := n0_; have BK309 := n1_; have GW309 := n2_; have GE309 := n3_; clear n0_ n1_ n2_ n3_; clear hb hbox hg))
 (try simp only [Act.put, List.setIfInBounds_toArray, List.set_cons_zero, List.set_cons_succ])
 go_cut [64] (fun v64 wc => ∃ (kq : Nat) (x64_3 : Bool), v64 = .bool x64_3 ∧ Aside0 (numerallaw12_RoundSame.j0 kq a1 (Int.tmod (wrap64 ((Int.tmod a2 100) + 100)) 100) x64_3 a0_0 a0_1 l0_2 l0_3 a0_4 = some r) ∧ Aside0 (kq ≤ k) ∧ Aside0 (wc.heap[gb309]? = some (.cells #[.int .i64 a0_0, .bool a0_1, (.slice A0_2 l0_2.length c0_2), (.slice A0_3 l0_3.length c0_3), .int .i64 a0_4] 24 (0, 0))) ∧ Aside0 (Below w.heap.size w wc))
 case first =>
  have H := HC4.out
  clear HC4
  by_cases c6 : (l0_2.length : Int) > 40
  ·rw [if_pos c6] at H
   have c6b0 : decide (40 < (l0_2.length : Int)) = true := decide_eq_true c6
   have c6b1 : decide (40 < l0_2.length) = true := decide_eq_true (by omega)
   clear c6
   (first | rw [c6b0] | (simp only [i64_w, i32_w]; rw [c6b0]) | skip)
   have H' := Aside0.mk H
   clear H
   have hcz7_0 : w5.cell? ⟨gb309, 0, none⟩ = some (.int .i64 a0_0) := (blk_cell BK309.out 0).trans rfl
   have hcz7_1 : w5.cell? ⟨gb309, 1, none⟩ = some (.bool a0_1) := (blk_cell BK309.out 1).trans rfl
   have hcz7_2 : w5.cell? ⟨gb309, 2, none⟩ = some (.slice A0_2 l0_2.length c0_2) := (blk_cell BK309.out 2).trans rfl
   have hcz7_3 : w5.cell? ⟨gb309, 3, none⟩ = some (.slice A0_3 l0_3.length c0_3) := (blk_cell BK309.out 3).trans rfl
   have hcz7_4 : w5.cell? ⟨gb309, 4, none⟩ = some (.int .i64 a0_4) := (blk_cell BK309.out 4).trans rfl
   have hfz7_0 := blk_frozen BK309.out 0
   have hfz7_1 := blk_frozen BK309.out 1
   have hfz7_2 := blk_frozen BK309.out 2
   have hfz7_3 := blk_frozen BK309.out 3
   have hfz7_4 := blk_frozen BK309.out 4
   go_wp2
   go_meet
   case rel => exact ⟨_, (true), (by first | rfl | (simp; done) | (simp [*]; done)), H', ⟨by first | omega | exact Nat.le_refl _⟩, ⟨by (with_reducible repeat (first | refine blk_drewN ?_ _ | refine blk_drew ?_ | refine blk_alloc ?_ _)); exact BK309.out⟩, ⟨by repeat (first | (with_reducible first | exact HB.out | apply below_alloc | apply pw_below_drewN | apply below_drew1 | refine below_set ?_ GE309.out) | exact HB.out)⟩⟩
  ·rw [if_neg c6] at H
   have c6b0 : decide (40 < (l0_2.length : Int)) = false := decide_eq_false c6
   have c6b1 : decide (40 < l0_2.length) = false := decide_eq_false (by omega)
   clear c6
   (first | rw [c6b0] | (simp only [i64_w, i32_w]; rw [c6b0]) | skip)
   by_cases c8 : (l0_3.length : Int) > 40
   ·rw [if_pos c8] at H
    have c8b0 : decide (40 < (l0_3.length : Int)) = true := decide_eq_true c8
    have c8b1 : decide (40 < l0_3.length) = true := decide_eq_true (by omega)
    clear c8
    have H' := Aside0.mk H
    clear H
    have hcz9_0 : w5.cell? ⟨gb309, 0, none⟩ = some (.int .i64 a0_0) := (blk_cell BK309.out 0).trans rfl
    have hcz9_1 : w5.cell? ⟨gb309, 1, none⟩ = some (.bool a0_1) := (blk_cell BK309.out 1).trans rfl
    have hcz9_2 : w5.cell? ⟨gb309, 2, none⟩ = some (.slice A0_2 l0_2.length c0_2) := (blk_cell BK309.out 2).trans rfl
    have hcz9_3 : w5.cell? ⟨gb309, 3, none⟩ = some (.slice A0_3 l0_3.length c0_3) := (blk_cell BK309.out 3).trans rfl
    have hcz9_4 : w5.cell? ⟨gb309, 4, none⟩ = some (.int .i64 a0_4) := (blk_cell BK309.out 4).trans rfl
    have hfz9_0 := blk_frozen BK309.out 0
    have hfz9_1 := blk_frozen BK309.out 1
    have hfz9_2 := blk_frozen BK309.out 2
    have hfz9_3 := blk_frozen BK309.out 3
    have hfz9_4 := blk_frozen BK309.out 4
    go_wp2
    go_meet
    case rel => exact ⟨_, (true), (by first | rfl | (simp; done) | (simp [*]; done)), H', ⟨by first | omega | exact Nat.le_refl _⟩, ⟨by (with_reducible repeat (first | refine blk_drewN ?_ _ | refine blk_drew ?_ | refine blk_alloc ?_ _)); exact BK309.out⟩, ⟨by repeat (first | (with_reducible first | exact HB.out | apply below_alloc | apply pw_below_drewN | apply below_drew1 | refine below_set ?_ GE309.out) | exact HB.out)⟩⟩
   ·rw [if_neg c8] at H
    have c8b0 : decide (40 < (l0_3.length : Int)) = false := decide_eq_false c8
    have c8b1 : decide (40 < l0_3.length) = false := decide_eq_false (by omega)
    clear c8
    replace H := Option.bind_eq_some_iff.mp H
    obtain ⟨t310, A100, H⟩ := H
    replace H : (if t310 = 0 then ((numeralref02_Valid.f l0_3).bind fun t311 => (if t311 = 0 then (if (l0_3.length : Int) = 0 then (numerallaw12_RoundSame.j0 k a1 (Int.tmod (wrap64 ((Int.tmod a2 100) + 100)) 100) true a0_0 a0_1 l0_2 l0_3 a0_4) else (if a1 = 0 then (numerallaw12_RoundSame.j0 k a1 (Int.tmod (wrap64 ((Int.tmod a2 100) + 100)) 100) true a0_0 a0_1 l0_2 l0_3 a0_4) else (if a0_4 > 1073741824 then (numerallaw12_RoundSame.j0 k a1 (Int.tmod (wrap64 ((Int.tmod a2 100) + 100)) 100) true a0_0 a0_1 l0_2 l0_3 a0_4) else (numerallaw12_RoundSame.j0 k a1 (Int.tmod (wrap64 ((Int.tmod a2 100) + 100)) 100) (decide (a0_4 < (-1073741824))) a0_0 a0_1 l0_2 l0_3 a0_4)))) else (numerallaw12_RoundSame.j0 k a1 (Int.tmod (wrap64 ((Int.tmod a2 100) + 100)) 100) true a0_0 a0_1 l0_2 l0_3 a0_4))) else (numerallaw12_RoundSame.j0 k a1 (Int.tmod (wrap64 ((Int.tmod a2 100) + 100)) 100) true a0_0 a0_1 l0_2 l0_3 a0_4)) = some r := H
    have A10 := Aside0.mk A100
    clear A100
    by_cases c11 : t310 = 0
    ·rw [if_pos c11] at H
     have c11b0 : (t310 == 0) = true := beq_iff_eq.mpr c11
     have c11b1 : (t310 != 0) = false := bne_eq_false_iff_eq.mpr c11
     clear c11
     replace H := Option.bind_eq_some_iff.mp H
     obtain ⟨t311, A120, H⟩ := H
     replace H : (if t311 = 0 then (if (l0_3.length : Int) = 0 then (numerallaw12_RoundSame.j0 k a1 (Int.tmod (wrap64 ((Int.tmod a2 100) + 100)) 100) true a0_0 a0_1 l0_2 l0_3 a0_4) else (if a1 = 0 then (numerallaw12_RoundSame.j0 k a1 (Int.tmod (wrap64 ((Int.tmod a2 100) + 100)) 100) true a0_0 a0_1 l0_2 l0_3 a0_4) else (if a0_4 > 1073741824 then (numerallaw12_RoundSame.j0 k a1 (Int.tmod (wrap64 ((Int.tmod a2 100) + 100)) 100) true a0_0 a0_1 l0_2 l0_3 a0_4) else (numerallaw12_RoundSame.j0 k a1 (Int.tmod (wrap64 ((Int.tmod a2 100) + 100)) 100) (decide (a0_4 < (-1073741824))) a0_0 a0_1 l0_2 l0_3 a0_4)))) else (numerallaw12_RoundSame.j0 k a1 (Int.tmod (wrap64 ((Int.tmod a2 100) + 100)) 100) true a0_0 a0_1 l0_2 l0_3 a0_4)) = some r := H
     have A12 := Aside0.mk A120
     clear A120
     by_cases c13 : t311 = 0
     ·rw [if_pos c13] at H
      have c13b0 : (t311 == 0) = true := beq_iff_eq.mpr c13
      have c13b1 : (t311 != 0) = false := bne_eq_false_iff_eq.mpr c13
      clear c13
      by_cases c14 : (l0_3.length : Int) = 0
      ·rw [if_pos c14] at H
       have c14b0 : ((l0_3.length : Int) == 0) = true := beq_iff_eq.mpr c14
       have c14b1 : ((l0_3.length : Int) != 0) = false := bne_eq_false_iff_eq.mpr c14
       clear c14
       have H' := Aside0.mk H
       clear H
       have hcz15_0 : w5.cell? ⟨gb309, 0, none⟩ = some (.int .i64 a0_0) := (blk_cell BK309.out 0).trans rfl
       have hcz15_1 : w5.cell? ⟨gb309, 1, none⟩ = some (.bool a0_1) := (blk_cell BK309.out 1).trans rfl
       have hcz15_2 : w5.cell? ⟨gb309, 2, none⟩ = some (.slice A0_2 l0_2.length c0_2) := (blk_cell BK309.out 2).trans rfl
       have hcz15_3 : w5.cell? ⟨gb309, 3, none⟩ = some (.slice A0_3 l0_3.length c0_3) := (blk_cell BK309.out 3).trans rfl
       have hcz15_4 : w5.cell? ⟨gb309, 4, none⟩ = some (.int .i64 a0_4) := (blk_cell BK309.out 4).trans rfl
       have hfz15_0 := blk_frozen BK309.out 0
       have hfz15_1 := blk_frozen BK309.out 1
       have hfz15_2 := blk_frozen BK309.out 2
       have hfz15_3 := blk_frozen BK309.out 3
       have hfz15_4 := blk_frozen BK309.out 4
       go_wp2_with (first | (go_at_call 15; (with_reducible refine (numeralref02_Valid.calls _ _ l0_2 t310 _ ?side1 ?side2 A10.out).mono ?_); (case side1 => repeat (first | exact (Kd.C_below HR0_2.out HB.out) | (with_reducible refine Kd.C_alloc ?_ _) | (with_reducible refine Kd.C_drewN ?_ _) | (with_reducible refine Kd.C_drew ?_))); (case side2 => exact HC0_2.out); rintro e w' ⟨rfl, ⟨nd, rfl⟩⟩) | (go_at_call 15; (with_reducible refine (numeralref02_Valid.calls _ _ l0_3 t311 _ ?side1 ?side2 A12.out).mono ?_); (case side1 => repeat (first | exact (Kd.C_below HR0_3.out (by repeat (first | (with_reducible first | exact HB.out | apply below_alloc | apply pw_below_drewN | apply below_drew1 | refine below_set ?_ GE309.out) | exact HB.out))) | (with_reducible refine Kd.C_alloc ?_ _) | (with_reducible refine Kd.C_drewN ?_ _) | (with_reducible refine Kd.C_drew ?_))); (case side2 => exact HC0_3.out); rintro e w' ⟨rfl, ⟨nd, rfl⟩⟩))
       go_meet
       case rel => exact ⟨_, (true), (by first | rfl | (simp; done) | (simp [*]; done)), H', ⟨by first | omega | exact Nat.le_refl _⟩, ⟨by (with_reducible repeat (first | refine blk_drewN ?_ _ | refine blk_drew ?_ | refine blk_alloc ?_ _)); exact BK309.out⟩, ⟨by repeat (first | (with_reducible first | exact HB.out | apply below_alloc | apply pw_below_drewN | apply below_drew1 | refine below_set ?_ GE309.out) | exact HB.out)⟩⟩
      ·rw [if_neg c14] at H
       have c14b0 : ((l0_3.length : Int) == 0) = false := beq_eq_false_iff_ne.mpr c14
       have c14b1 : ((l0_3.length : Int) != 0) = true := bne_iff_ne.mpr c14
       have c14b2 : ¬ (l0_3 = []) := fun h_ => c14 (by rw [h_]; rfl)
       by_cases c16 : a1 = 0
       ·rw [if_pos c16] at H
        have c16b0 : (a1 == 0) = true := beq_iff_eq.mpr c16
        have c16b1 : (a1 != 0) = false := bne_eq_false_iff_eq.mpr c16
        clear c16
        have H' := Aside0.mk H
        clear H
        have hcz17_0 : w5.cell? ⟨gb309, 0, none⟩ = some (.int .i64 a0_0) := (blk_cell BK309.out 0).trans rfl
        have hcz17_1 : w5.cell? ⟨gb309, 1, none⟩ = some (.bool a0_1) := (blk_cell BK309.out 1).trans rfl
        have hcz17_2 : w5.cell? ⟨gb309, 2, none⟩ = some (.slice A0_2 l0_2.length c0_2) := (blk_cell BK309.out 2).trans rfl
        have hcz17_3 : w5.cell? ⟨gb309, 3, none⟩ = some (.slice A0_3 l0_3.length c0_3) := (blk_cell BK309.out 3).trans rfl
        have hcz17_4 : w5.cell? ⟨gb309, 4, none⟩ = some (.int .i64 a0_4) := (blk_cell BK309.out 4).trans rfl
        have hfz17_0 := blk_frozen BK309.out 0
        have hfz17_1 := blk_frozen BK309.out 1
        have hfz17_2 := blk_frozen BK309.out 2
        have hfz17_3 := blk_frozen BK309.out 3
        have hfz17_4 := blk_frozen BK309.out 4
        go_wp2_with (first | (go_at_call 15; (with_reducible refine (numeralref02_Valid.calls _ _ l0_2 t310 _ ?side1 ?side2 A10.out).mono ?_); (case side1 => repeat (first | exact (Kd.C_below HR0_2.out HB.out) | (with_reducible refine Kd.C_alloc ?_ _) | (with_reducible refine Kd.C_drewN ?_ _) | (with_reducible refine Kd.C_drew ?_))); (case side2 => exact HC0_2.out); rintro e w' ⟨rfl, ⟨nd, rfl⟩⟩) | (go_at_call 15; (with_reducible refine (numeralref02_Valid.calls _ _ l0_3 t311 _ ?side1 ?side2 A12.out).mono ?_); (case side1 => repeat (first | exact (Kd.C_below HR0_3.out (by repeat (first | (with_reducible first | exact HB.out | apply below_alloc | apply pw_below_drewN | apply below_drew1 | refine below_set ?_ GE309.out) | exact HB.out))) | (with_reducible refine Kd.C_alloc ?_ _) | (with_reducible refine Kd.C_drewN ?_ _) | (with_reducible refine Kd.C_drew ?_))); (case side2 => exact HC0_3.out); rintro e w' ⟨rfl, ⟨nd, rfl⟩⟩))
        go_meet
        case rel => exact ⟨_, (true), (by first | rfl | (simp; done) | (simp [*]; done)), H', ⟨by first | omega | exact Nat.le_refl _⟩, ⟨by (with_reducible repeat (first | refine blk_drewN ?_ _ | refine blk_drew ?_ | refine blk_alloc ?_ _)); exact BK309.out⟩, ⟨by repeat (first | (with_reducible first | exact HB.out | apply below_alloc | apply pw_below_drewN | apply below_drew1 | refine below_set ?_ GE309.out) | exact HB.out)⟩⟩
       ·rw [if_neg c16] at H
        have c16b0 : (a1 == 0) = false := beq_eq_false_iff_ne.mpr c16
        have c16b1 : (a1 != 0) = true := bne_iff_ne.mpr c16
        by_cases c18 : a0_4 > 1073741824
        ·rw [if_pos c18] at H
         have c18b0 : decide (1073741824 < a0_4) = true := decide_eq_true c18
         clear c18
         have H' := Aside0.mk H
         clear H
         have hcz19_0 : w5.cell? ⟨gb309, 0, none⟩ = some (.int .i64 a0_0) := (blk_cell BK309.out 0).trans rfl
         have hcz19_1 : w5.cell? ⟨gb309, 1, none⟩ = some (.bool a0_1) := (blk_cell BK309.out 1).trans rfl
         have hcz19_2 : w5.cell? ⟨gb309, 2, none⟩ = some (.slice A0_2 l0_2.length c0_2) := (blk_cell BK309.out 2).trans rfl
         have hcz19_3 : w5.cell? ⟨gb309, 3, none⟩ = some (.slice A0_3 l0_3.length c0_3) := (blk_cell BK309.out 3).trans rfl
         have hcz19_4 : w5.cell? ⟨gb309, 4, none⟩ = some (.int .i64 a0_4) := (blk_cell BK309.out 4).trans rfl
         have hfz19_0 := blk_frozen BK309.out 0
         have hfz19_1 := blk_frozen BK309.out 1
         have hfz19_2 := blk_frozen BK309.out 2
         have hfz19_3 := blk_frozen BK309.out 3
         have hfz19_4 := blk_frozen BK309.out 4
         go_wp2_with (first | (go_at_call 15; (with_reducible refine (numeralref02_Valid.calls _ _ l0_2 t310 _ ?side1 ?side2 A10.out).mono ?_); (case side1 => repeat (first | exact (Kd.C_below HR0_2.out HB.out) | (with_reducible refine Kd.C_alloc ?_ _) | (with_reducible refine Kd.C_drewN ?_ _) | (with_reducible refine Kd.C_drew ?_))); (case side2 => exact HC0_2.out); rintro e w' ⟨rfl, ⟨nd, rfl⟩⟩) | (go_at_call 15; (with_reducible refine (numeralref02_Valid.calls _ _ l0_3 t311 _ ?side1 ?side2 A12.out).mono ?_); (case side1 => repeat (first | exact (Kd.C_below HR0_3.out (by repeat (first | (with_reducible first | exact HB.out | apply below_alloc | apply pw_below_drewN | apply below_drew1 | refine below_set ?_ GE309.out) | exact HB.out))) | (with_reducible refine Kd.C_alloc ?_ _) | (with_reducible refine Kd.C_drewN ?_ _) | (with_reducible refine Kd.C_drew ?_))); (case side2 => exact HC0_3.out); rintro e w' ⟨rfl, ⟨nd, rfl⟩⟩))
         go_meet
         case rel => exact ⟨_, (true), (by first | rfl | (simp; done) | (simp [*]; done)), H', ⟨by first | omega | exact Nat.le_refl _⟩, ⟨by (with_reducible repeat (first | refine blk_drewN ?_ _ | refine blk_drew ?_ | refine blk_alloc ?_ _)); exact BK309.out⟩, ⟨by repeat (first | (with_reducible first | exact HB.out | apply below_alloc | apply pw_below_drewN | apply below_drew1 | refine below_set ?_ GE309.out) | exact HB.out)⟩⟩
        ·rw [if_neg c18] at H
         have c18b0 : decide (1073741824 < a0_4) = false := decide_eq_false c18
         clear c18
         have H' := Aside0.mk H
         clear H
         have hcz20_0 : w5.cell? ⟨gb309, 0, none⟩ = some (.int .i64 a0_0) := (blk_cell BK309.out 0).trans rfl
         have hcz20_1 : w5.cell? ⟨gb309, 1, none⟩ = some (.bool a0_1) := (blk_cell BK309.out 1).trans rfl
         have hcz20_2 : w5.cell? ⟨gb309, 2, none⟩ = some (.slice A0_2 l0_2.length c0_2) := (blk_cell BK309.out 2).trans rfl
         have hcz20_3 : w5.cell? ⟨gb309, 3, none⟩ = some (.slice A0_3 l0_3.length c0_3) := (blk_cell BK309.out 3).trans rfl
         have hcz20_4 : w5.cell? ⟨gb309, 4, none⟩ = some (.int .i64 a0_4) := (blk_cell BK309.out 4).trans rfl
         have hfz20_0 := blk_frozen BK309.out 0
         have hfz20_1 := blk_frozen BK309.out 1
         have hfz20_2 := blk_frozen BK309.out 2
         have hfz20_3 := blk_frozen BK309.out 3
         have hfz20_4 := blk_frozen BK309.out 4
         go_wp2_with (first | (go_at_call 15; (with_reducible refine (numeralref02_Valid.calls _ _ l0_2 t310 _ ?side1 ?side2 A10.out).mono ?_); (case side1 => repeat (first | exact (Kd.C_below HR0_2.out HB.out) | (with_reducible refine Kd.C_alloc ?_ _) | (with_reducible refine Kd.C_drewN ?_ _) | (with_reducible refine Kd.C_drew ?_))); (case side2 => exact HC0_2.out); rintro e w' ⟨rfl, ⟨nd, rfl⟩⟩) | (go_at_call 15; (with_reducible refine (numeralref02_Valid.calls _ _ l0_3 t311 _ ?side1 ?side2 A12.out).mono ?_); (case side1 => repeat (first | exact (Kd.C_below HR0_3.out (by repeat (first | (with_reducible first | exact HB.out | apply below_alloc | apply pw_below_drewN | apply below_drew1 | refine below_set ?_ GE309.out) | exact HB.out))) | (with_reducible refine Kd.C_alloc ?_ _) | (with_reducible refine Kd.C_drewN ?_ _) | (with_reducible refine Kd.C_drew ?_))); (case side2 => exact HC0_3.out); rintro e w' ⟨rfl, ⟨nd, rfl⟩⟩))
         go_meet
         case rel => exact ⟨_, (decide (a0_4 < (-1073741824))), (by first | rfl | (simp; done) | (simp [*]; done)), H', ⟨by first | omega | exact Nat.le_refl _⟩, ⟨by (with_reducible repeat (first | refine blk_drewN ?_ _ | refine blk_drew ?_ | refine blk_alloc ?_ _)); exact BK309.out⟩, ⟨by repeat (first | (with_reducible first | exact HB.out | apply below_alloc | apply pw_below_drewN | apply below_drew1 | refine below_set ?_ GE309.out) | exact HB.out)⟩⟩
     ·rw [if_neg c13] at H
      have c13b0 : (t311 == 0) = false := beq_eq_false_iff_ne.mpr c13
      have c13b1 : (t311 != 0) = true := bne_iff_ne.mpr c13
      have H' := Aside0.mk H
      clear H
      have hcz21_0 : w5.cell? ⟨gb309, 0, none⟩ = some (.int .i64 a0_0) := (blk_cell BK309.out 0).trans rfl
      have hcz21_1 : w5.cell? ⟨gb309, 1, none⟩ = some (.bool a0_1) := (blk_cell BK309.out 1).trans rfl
      have hcz21_2 : w5.cell? ⟨gb309, 2, none⟩ = some (.slice A0_2 l0_2.length c0_2) := (blk_cell BK309.out 2).trans rfl
      have hcz21_3 : w5.cell? ⟨gb309, 3, none⟩ = some (.slice A0_3 l0_3.length c0_3) := (blk_cell BK309.out 3).trans rfl
      have hcz21_4 : w5.cell? ⟨gb309, 4, none⟩ = some (.int .i64 a0_4) := (blk_cell BK309.out 4).trans rfl
      have hfz21_0 := blk_frozen BK309.out 0
      have hfz21_1 := blk_frozen BK309.out 1
      have hfz21_2 := blk_frozen BK309.out 2
      have hfz21_3 := blk_frozen BK309.out 3
      have hfz21_4 := blk_frozen BK309.out 4
      go_wp2_with (first | (go_at_call 15; (with_reducible refine (numeralref02_Valid.calls _ _ l0_2 t310 _ ?side1 ?side2 A10.out).mono ?_); (case side1 => repeat (first | exact (Kd.C_below HR0_2.out HB.out) | (with_reducible refine Kd.C_alloc ?_ _) | (with_reducible refine Kd.C_drewN ?_ _) | (with_reducible refine Kd.C_drew ?_))); (case side2 => exact HC0_2.out); rintro e w' ⟨rfl, ⟨nd, rfl⟩⟩) | (go_at_call 15; (with_reducible refine (numeralref02_Valid.calls _ _ l0_3 t311 _ ?side1 ?side2 A12.out).mono ?_); (case side1 => repeat (first | exact (Kd.C_below HR0_3.out (by repeat (first | (with_reducible first | exact HB.out | apply below_alloc | apply pw_below_drewN | apply below_drew1 | refine below_set ?_ GE309.out) | exact HB.out))) | (with_reducible refine Kd.C_alloc ?_ _) | (with_reducible refine Kd.C_drewN ?_ _) | (with_reducible refine Kd.C_drew ?_))); (case side2 => exact HC0_3.out); rintro e w' ⟨rfl, ⟨nd, rfl⟩⟩))
      go_meet
      case rel => exact ⟨_, (true), (by first | rfl | (simp; done) | (simp [*]; done)), H', ⟨by first | omega | exact Nat.le_refl _⟩, ⟨by (with_reducible repeat (first | refine blk_drewN ?_ _ | refine blk_drew ?_ | refine blk_alloc ?_ _)); exact BK309.out⟩, ⟨by repeat (first | (with_reducible first | exact HB.out | apply below_alloc | apply pw_below_drewN | apply below_drew1 | refine below_set ?_ GE309.out) | exact HB.out)⟩⟩
    ·rw [if_neg c11] at H
     have c11b0 : (t310 == 0) = false := beq_eq_false_iff_ne.mpr c11
     have c11b1 : (t310 != 0) = true := bne_iff_ne.mpr c11
     have H' := Aside0.mk H
     clear H
     have hcz22_0 : w5.cell? ⟨gb309, 0, none⟩ = some (.int .i64 a0_0) := (blk_cell BK309.out 0).trans rfl
     have hcz22_1 : w5.cell? ⟨gb309, 1, none⟩ = some (.bool a0_1) := (blk_cell BK309.out 1).trans rfl
     have hcz22_2 : w5.cell? ⟨gb309, 2, none⟩ = some (.slice A0_2 l0_2.length c0_2) := (blk_cell BK309.out 2).trans rfl
     have hcz22_3 : w5.cell? ⟨gb309, 3, none⟩ = some (.slice A0_3 l0_3.length c0_3) := (blk_cell BK309.out 3).trans rfl
     have hcz22_4 : w5.cell? ⟨gb309, 4, none⟩ = some (.int .i64 a0_4) := (blk_cell BK309.out 4).trans rfl
     have hfz22_0 := blk_frozen BK309.out 0
     have hfz22_1 := blk_frozen BK309.out 1
     have hfz22_2 := blk_frozen BK309.out 2
     have hfz22_3 := blk_frozen BK309.out 3
     have hfz22_4 := blk_frozen BK309.out 4
     go_wp2_with (first | (go_at_call 15; (with_reducible refine (numeralref02_Valid.calls _ _ l0_2 t310 _ ?side1 ?side2 A10.out).mono ?_); (case side1 => repeat (first | exact (Kd.C_below HR0_2.out HB.out) | (with_reducible refine Kd.C_alloc ?_ _) | (with_reducible refine Kd.C_drewN ?_ _) | (with_reducible refine Kd.C_drew ?_))); (case side2 => exact HC0_2.out); rintro e w' ⟨rfl, ⟨nd, rfl⟩⟩))
     go_meet
     case rel => exact ⟨_, (true), (by first | rfl | (simp; done) | (simp [*]; done)), H', ⟨by first | omega | exact Nat.le_refl _⟩, ⟨by (with_reducible repeat (first | refine blk_drewN ?_ _ | refine blk_drew ?_ | refine blk_alloc ?_ _)); exact BK309.out⟩, ⟨by repeat (first | (with_reducible first | exact HB.out | apply below_alloc | apply pw_below_drewN | apply below_drew1 | refine below_set ?_ GE309.out) | exact HB.out)⟩⟩
 case rest =>
  clear HC4
  try clear c1
  try clear p2
  try clear c6
  try clear c6b0
  try clear c6b1
  try clear p6
  try clear c8
  try clear c8b0
  try clear c8b1
  try clear c11
  try clear c11b0
  try clear c11b1
  try clear c13
  try clear c13b0
  try clear c13b1
  try clear c14
  try clear c14b0
  try clear c14b1
  try clear c14b2
  try clear c16
  try clear c16b0
  try clear c16b1
  try clear c18
  try clear c18b0
  try clear hcz15_0
  try clear hcz15_1
  try clear hcz15_2
  try clear hcz15_3
  try clear hcz15_4
  try clear hcz17_0
  try clear hcz17_1
  try clear hcz17_2
  try clear hcz17_3
  try clear hcz17_4
  try clear hcz19_0
  try clear hcz19_1
  try clear hcz19_2
  try clear hcz19_3
  try clear hcz19_4
  try clear hcz20_0
  try clear hcz20_1
  try clear hcz20_2
  try clear hcz20_3
  try clear hcz20_4
  try clear hcz21_0
  try clear hcz21_1
  try clear hcz21_2
  try clear hcz21_3
  try clear hcz21_4
  try clear hcz22_0
  try clear hcz22_1
  try clear hcz22_2
  try clear hcz22_3
  try clear hcz22_4
  try clear hcz7_0
  try clear hcz7_1
  try clear hcz7_2
  try clear hcz7_3
  try clear hcz7_4
  try clear hcz9_0
  try clear hcz9_1
  try clear hcz9_2
  try clear hcz9_3
  try clear hcz9_4
  try clear hfz15_0
  try clear hfz15_1
  try clear hfz15_2
  try clear hfz15_3
  try clear hfz15_4
  try clear hfz17_0
  try clear hfz17_1
  try clear hfz17_2
  try clear hfz17_3
  try clear hfz17_4
  try clear hfz19_0
  try clear hfz19_1
  try clear hfz19_2
  try clear hfz19_3
  try clear hfz19_4
  try clear hfz20_0
  try clear hfz20_1
  try clear hfz20_2
  try clear hfz20_3
  try clear hfz20_4
  try clear hfz21_0
  try clear hfz21_1
  try clear hfz21_2
  try clear hfz21_3
  try clear hfz21_4
  try clear hfz22_0
  try clear hfz22_1
  try clear hfz22_2
  try clear hfz22_3
  try clear hfz22_4
  try clear hfz7_0
  try clear hfz7_1
  try clear hfz7_2
  try clear hfz7_3
  try clear hfz7_4
  try clear hfz9_0
  try clear hfz9_1
  try clear hfz9_2
  try clear hfz9_3
  try clear hfz9_4
  obtain ⟨kq, x64_3, rfl, HA, HJ3, BK309, HB⟩ := hcut
  cases kq with
  | zero => exact absurd HA.out (by simp [numerallaw12_RoundSame.j0])
  | succ kj3 =>
   have H := HA.out
   clear HA
   simp only [numerallaw12_RoundSame.j0] at H
   by_cases c23 : x64_3 = true
   ·subst c23
    have H1 : ((numerallaw12_works.f kj3).bind fun t312 => (some t312)) = some r := by rw [if_pos rfl] at H; exact H
    clear H
    have H := H1
    clear H1
    replace H := Option.bind_eq_some_iff.mp H
    obtain ⟨t312, A240, H⟩ := H
    replace H : (some t312) = some r := H
    have A24 := Aside0.mk A240
    clear A240
    obtain rfl := Option.some.inj H
    go_wp2_with (first | ((with_reducible refine gate_callee (f := 12) rfl ?_); refine goesL_ (some 65) rfl rfl Tryd.func12 (by kernel_rfl) rfl #[] rfl (by (try simp only [List.map_toArray, List.map_cons, List.map_nil]); first | done | rfl | (simp only [List.length_drop, List.length_take]; rfl)) ?_; (with_reducible refine (numerallaw12_works.calls kj3  t312 _ ?side1 A24.out).mono ?_); (case side1 => exact Laid_DB64.of_below HL_DB64.out (by repeat (first | (with_reducible first | exact HB.out | apply below_alloc | apply pw_below_drewN | apply below_drew1 | refine below_set ?_ GE309.out) | exact HB.out))); rintro e w25 ⟨rfl, hb⟩; refine ⟨_, rfl, ?_⟩; have n0_ := Aside0.mk (blk_below (g := gb309) (o := .cells #[.int .i64 a0_0, .bool a0_1, .slice A0_2 l0_2.length c0_2, .slice A0_3 l0_3.length c0_3, .int .i64 a0_4] 24 (0, 0)) (by (with_reducible repeat (first | refine blk_drewN ?_ _ | refine blk_drew ?_ | refine blk_alloc ?_ _)); exact BK309.out) hb); have n1_ := Aside0.mk (below_step (by repeat (first | (with_reducible first | exact HB.out | apply below_alloc | apply pw_below_drewN | apply below_drew1 | refine below_set ?_ GE309.out) | exact HB.out)) hb); clear BK309; clear HB; have BK309 := n0_; have HB := n1_; clear n0_ n1_; (try clear hb); (try clear hb2); (try clear hk); (try clear hi)))
    go_ret
    exact ⟨by first | rfl | (simp [errW_none, errW_some] <;> rfl) | (simp [*, errW_none, errW_some] <;> rfl), by repeat (first | (with_reducible first | exact HB.out | apply below_alloc | apply pw_below_drewN | apply below_drew1 | refine below_set ?_ GE309.out) | exact HB.out)⟩
   ·replace c23 := Bool.eq_false_iff.mpr c23
    subst c23
    have H1 : ((numerallaw12_twin.f l0_2).bind fun t313 => ((numerallaw12_twin.f l0_3).bind fun t316 => ((round_Ratio.f kj3 a0_0 a0_1 t313 t316 a0_4).bind fun bt319 => ((numerallaw12_twin.f l0_2).bind fun t321 => ((nat_Of.f kj3 a1).bind fun t324 => ((nat_Mul.f kj3 t321 t324).bind fun bt327 => ((numerallaw12_twin.f l0_3).bind fun t331 => ((nat_Of.f kj3 a1).bind fun t334 => ((nat_Mul.f kj3 t331 t334).bind fun bt337 => ((nat_Shl.f kj3 bt327.1 (Int.tmod (wrap64 ((Int.tmod a2 100) + 100)) 100)).bind fun bt341 => ((round_Ratio.f kj3 a0_0 a0_1 bt327.1 bt337.1 a0_4).bind fun bt345 => ((round_Ratio.f kj3 a0_0 a0_1 bt341.1 bt337.1 (wrap64 (a0_4 - (Int.tmod (wrap64 ((Int.tmod a2 100) + 100)) 100)))).bind fun bt347 => (if bt327.2.isNone = true then (if bt337.2.isNone = true then (if bt341.2.isNone = true then (if bt319.1 = bt345.1 then (if bt319.1 = bt347.1 then ((numerallaw12_num.f bt319.2).bind fun t352 => ((numerallaw12_num.f bt345.2).bind fun t353 => (if t352 = t353 then ((numerallaw12_num.f bt319.2).bind fun t354 => ((numerallaw12_num.f bt347.2).bind fun t355 => (if t354 = t355 then ((numerallaw12_works.f kj3).bind fun t356 => (some t356)) else (none)))) else (none)))) else (none)) else (none)) else (none)) else (none)) else (none)))))))))))))) = some r := by rw [if_neg (show ¬ (false = true) by decide)] at H; exact H
    clear H
    have H := H1
    clear H1
    replace H := Option.bind_eq_some_iff.mp H
    obtain ⟨t313, A260, H⟩ := H
    replace H : ((numerallaw12_twin.f l0_3).bind fun t316 => ((round_Ratio.f kj3 a0_0 a0_1 t313 t316 a0_4).bind fun bt319 => ((numerallaw12_twin.f l0_2).bind fun t321 => ((nat_Of.f kj3 a1).bind fun t324 => ((nat_Mul.f kj3 t321 t324).bind fun bt327 => ((numerallaw12_twin.f l0_3).bind fun t331 => ((nat_Of.f kj3 a1).bind fun t334 => ((nat_Mul.f kj3 t331 t334).bind fun bt337 => ((nat_Shl.f kj3 bt327.1 (Int.tmod (wrap64 ((Int.tmod a2 100) + 100)) 100)).bind fun bt341 => ((round_Ratio.f kj3 a0_0 a0_1 bt327.1 bt337.1 a0_4).bind fun bt345 => ((round_Ratio.f kj3 a0_0 a0_1 bt341.1 bt337.1 (wrap64 (a0_4 - (Int.tmod (wrap64 ((Int.tmod a2 100) + 100)) 100)))).bind fun bt347 => (if bt327.2.isNone = true then (if bt337.2.isNone = true then (if bt341.2.isNone = true then (if bt319.1 = bt345.1 then (if bt319.1 = bt347.1 then ((numerallaw12_num.f bt319.2).bind fun t352 => ((numerallaw12_num.f bt345.2).bind fun t353 => (if t352 = t353 then ((numerallaw12_num.f bt319.2).bind fun t354 => ((numerallaw12_num.f bt347.2).bind fun t355 => (if t354 = t355 then ((numerallaw12_works.f kj3).bind fun t356 => (some t356)) else (none)))) else (none)))) else (none)) else (none)) else (none)) else (none)) else (none))))))))))))) = some r := H
    have A26 := Aside0.mk A260
    clear A260
    replace H := Option.bind_eq_some_iff.mp H
    obtain ⟨t316, A270, H⟩ := H
    replace H : ((round_Ratio.f kj3 a0_0 a0_1 t313 t316 a0_4).bind fun bt319 => ((numerallaw12_twin.f l0_2).bind fun t321 => ((nat_Of.f kj3 a1).bind fun t324 => ((nat_Mul.f kj3 t321 t324).bind fun bt327 => ((numerallaw12_twin.f l0_3).bind fun t331 => ((nat_Of.f kj3 a1).bind fun t334 => ((nat_Mul.f kj3 t331 t334).bind fun bt337 => ((nat_Shl.f kj3 bt327.1 (Int.tmod (wrap64 ((Int.tmod a2 100) + 100)) 100)).bind fun bt341 => ((round_Ratio.f kj3 a0_0 a0_1 bt327.1 bt337.1 a0_4).bind fun bt345 => ((round_Ratio.f kj3 a0_0 a0_1 bt341.1 bt337.1 (wrap64 (a0_4 - (Int.tmod (wrap64 ((Int.tmod a2 100) + 100)) 100)))).bind fun bt347 => (if bt327.2.isNone = true then (if bt337.2.isNone = true then (if bt341.2.isNone = true then (if bt319.1 = bt345.1 then (if bt319.1 = bt347.1 then ((numerallaw12_num.f bt319.2).bind fun t352 => ((numerallaw12_num.f bt345.2).bind fun t353 => (if t352 = t353 then ((numerallaw12_num.f bt319.2).bind fun t354 => ((numerallaw12_num.f bt347.2).bind fun t355 => (if t354 = t355 then ((numerallaw12_works.f kj3).bind fun t356 => (some t356)) else (none)))) else (none)))) else (none)) else (none)) else (none)) else (none)) else (none)))))))))))) = some r := H
    have A27 := Aside0.mk A270
    clear A270
    replace H := Option.bind_eq_some_iff.mp H
    obtain ⟨⟨t319, t320⟩, A280, H⟩ := H
    replace H : ((numerallaw12_twin.f l0_2).bind fun t321 => ((nat_Of.f kj3 a1).bind fun t324 => ((nat_Mul.f kj3 t321 t324).bind fun bt327 => ((numerallaw12_twin.f l0_3).bind fun t331 => ((nat_Of.f kj3 a1).bind fun t334 => ((nat_Mul.f kj3 t331 t334).bind fun bt337 => ((nat_Shl.f kj3 bt327.1 (Int.tmod (wrap64 ((Int.tmod a2 100) + 100)) 100)).bind fun bt341 => ((round_Ratio.f kj3 a0_0 a0_1 bt327.1 bt337.1 a0_4).bind fun bt345 => ((round_Ratio.f kj3 a0_0 a0_1 bt341.1 bt337.1 (wrap64 (a0_4 - (Int.tmod (wrap64 ((Int.tmod a2 100) + 100)) 100)))).bind fun bt347 => (if bt327.2.isNone = true then (if bt337.2.isNone = true then (if bt341.2.isNone = true then (if t319 = bt345.1 then (if t319 = bt347.1 then ((numerallaw12_num.f t320).bind fun t352 => ((numerallaw12_num.f bt345.2).bind fun t353 => (if t352 = t353 then ((numerallaw12_num.f t320).bind fun t354 => ((numerallaw12_num.f bt347.2).bind fun t355 => (if t354 = t355 then ((numerallaw12_works.f kj3).bind fun t356 => (some t356)) else (none)))) else (none)))) else (none)) else (none)) else (none)) else (none)) else (none))))))))))) = some r := H
    have A28 := Aside0.mk A280
    clear A280
    replace H := Option.bind_eq_some_iff.mp H
    obtain ⟨t321, A290, H⟩ := H
    replace H : ((nat_Of.f kj3 a1).bind fun t324 => ((nat_Mul.f kj3 t321 t324).bind fun bt327 => ((numerallaw12_twin.f l0_3).bind fun t331 => ((nat_Of.f kj3 a1).bind fun t334 => ((nat_Mul.f kj3 t331 t334).bind fun bt337 => ((nat_Shl.f kj3 bt327.1 (Int.tmod (wrap64 ((Int.tmod a2 100) + 100)) 100)).bind fun bt341 => ((round_Ratio.f kj3 a0_0 a0_1 bt327.1 bt337.1 a0_4).bind fun bt345 => ((round_Ratio.f kj3 a0_0 a0_1 bt341.1 bt337.1 (wrap64 (a0_4 - (Int.tmod (wrap64 ((Int.tmod a2 100) + 100)) 100)))).bind fun bt347 => (if bt327.2.isNone = true then (if bt337.2.isNone = true then (if bt341.2.isNone = true then (if t319 = bt345.1 then (if t319 = bt347.1 then ((numerallaw12_num.f t320).bind fun t352 => ((numerallaw12_num.f bt345.2).bind fun t353 => (if t352 = t353 then ((numerallaw12_num.f t320).bind fun t354 => ((numerallaw12_num.f bt347.2).bind fun t355 => (if t354 = t355 then ((numerallaw12_works.f kj3).bind fun t356 => (some t356)) else (none)))) else (none)))) else (none)) else (none)) else (none)) else (none)) else (none)))))))))) = some r := H
    have A29 := Aside0.mk A290
    clear A290
    replace H := Option.bind_eq_some_iff.mp H
    obtain ⟨t324, A300, H⟩ := H
    replace H : ((nat_Mul.f kj3 t321 t324).bind fun bt327 => ((numerallaw12_twin.f l0_3).bind fun t331 => ((nat_Of.f kj3 a1).bind fun t334 => ((nat_Mul.f kj3 t331 t334).bind fun bt337 => ((nat_Shl.f kj3 bt327.1 (Int.tmod (wrap64 ((Int.tmod a2 100) + 100)) 100)).bind fun bt341 => ((round_Ratio.f kj3 a0_0 a0_1 bt327.1 bt337.1 a0_4).bind fun bt345 => ((round_Ratio.f kj3 a0_0 a0_1 bt341.1 bt337.1 (wrap64 (a0_4 - (Int.tmod (wrap64 ((Int.tmod a2 100) + 100)) 100)))).bind fun bt347 => (if bt327.2.isNone = true then (if bt337.2.isNone = true then (if bt341.2.isNone = true then (if t319 = bt345.1 then (if t319 = bt347.1 then ((numerallaw12_num.f t320).bind fun t352 => ((numerallaw12_num.f bt345.2).bind fun t353 => (if t352 = t353 then ((numerallaw12_num.f t320).bind fun t354 => ((numerallaw12_num.f bt347.2).bind fun t355 => (if t354 = t355 then ((numerallaw12_works.f kj3).bind fun t356 => (some t356)) else (none)))) else (none)))) else (none)) else (none)) else (none)) else (none)) else (none))))))))) = some r := H
    have A30 := Aside0.mk A300
    clear A300
    replace H := Option.bind_eq_some_iff.mp H
    obtain ⟨⟨t327, t328⟩, A310, H⟩ := H
    replace H : ((numerallaw12_twin.f l0_3).bind fun t331 => ((nat_Of.f kj3 a1).bind fun t334 => ((nat_Mul.f kj3 t331 t334).bind fun bt337 => ((nat_Shl.f kj3 t327 (Int.tmod (wrap64 ((Int.tmod a2 100) + 100)) 100)).bind fun bt341 => ((round_Ratio.f kj3 a0_0 a0_1 t327 bt337.1 a0_4).bind fun bt345 => ((round_Ratio.f kj3 a0_0 a0_1 bt341.1 bt337.1 (wrap64 (a0_4 - (Int.tmod (wrap64 ((Int.tmod a2 100) + 100)) 100)))).bind fun bt347 => (if t328.isNone = true then (if bt337.2.isNone = true then (if bt341.2.isNone = true then (if t319 = bt345.1 then (if t319 = bt347.1 then ((numerallaw12_num.f t320).bind fun t352 => ((numerallaw12_num.f bt345.2).bind fun t353 => (if t352 = t353 then ((numerallaw12_num.f t320).bind fun t354 => ((numerallaw12_num.f bt347.2).bind fun t355 => (if t354 = t355 then ((numerallaw12_works.f kj3).bind fun t356 => (some t356)) else (none)))) else (none)))) else (none)) else (none)) else (none)) else (none)) else (none)))))))) = some r := H
    have A31 := Aside0.mk A310
    clear A310
    replace H := Option.bind_eq_some_iff.mp H
    obtain ⟨t331, A320, H⟩ := H
    replace H : ((nat_Of.f kj3 a1).bind fun t334 => ((nat_Mul.f kj3 t331 t334).bind fun bt337 => ((nat_Shl.f kj3 t327 (Int.tmod (wrap64 ((Int.tmod a2 100) + 100)) 100)).bind fun bt341 => ((round_Ratio.f kj3 a0_0 a0_1 t327 bt337.1 a0_4).bind fun bt345 => ((round_Ratio.f kj3 a0_0 a0_1 bt341.1 bt337.1 (wrap64 (a0_4 - (Int.tmod (wrap64 ((Int.tmod a2 100) + 100)) 100)))).bind fun bt347 => (if t328.isNone = true then (if bt337.2.isNone = true then (if bt341.2.isNone = true then (if t319 = bt345.1 then (if t319 = bt347.1 then ((numerallaw12_num.f t320).bind fun t352 => ((numerallaw12_num.f bt345.2).bind fun t353 => (if t352 = t353 then ((numerallaw12_num.f t320).bind fun t354 => ((numerallaw12_num.f bt347.2).bind fun t355 => (if t354 = t355 then ((numerallaw12_works.f kj3).bind fun t356 => (some t356)) else (none)))) else (none)))) else (none)) else (none)) else (none)) else (none)) else (none))))))) = some r := H
    have A32 := Aside0.mk A320
    clear A320
    replace H := Option.bind_eq_some_iff.mp H
    obtain ⟨t334, A330, H⟩ := H
    replace H : ((nat_Mul.f kj3 t331 t334).bind fun bt337 => ((nat_Shl.f kj3 t327 (Int.tmod (wrap64 ((Int.tmod a2 100) + 100)) 100)).bind fun bt341 => ((round_Ratio.f kj3 a0_0 a0_1 t327 bt337.1 a0_4).bind fun bt345 => ((round_Ratio.f kj3 a0_0 a0_1 bt341.1 bt337.1 (wrap64 (a0_4 - (Int.tmod (wrap64 ((Int.tmod a2 100) + 100)) 100)))).bind fun bt347 => (if t328.isNone = true then (if bt337.2.isNone = true then (if bt341.2.isNone = true then (if t319 = bt345.1 then (if t319 = bt347.1 then ((numerallaw12_num.f t320).bind fun t352 => ((numerallaw12_num.f bt345.2).bind fun t353 => (if t352 = t353 then ((numerallaw12_num.f t320).bind fun t354 => ((numerallaw12_num.f bt347.2).bind fun t355 => (if t354 = t355 then ((numerallaw12_works.f kj3).bind fun t356 => (some t356)) else (none)))) else (none)))) else (none)) else (none)) else (none)) else (none)) else (none)))))) = some r := H
    have A33 := Aside0.mk A330
    clear A330
    replace H := Option.bind_eq_some_iff.mp H
    obtain ⟨⟨t337, t338⟩, A340, H⟩ := H
    replace H : ((nat_Shl.f kj3 t327 (Int.tmod (wrap64 ((Int.tmod a2 100) + 100)) 100)).bind fun bt341 => ((round_Ratio.f kj3 a0_0 a0_1 t327 t337 a0_4).bind fun bt345 => ((round_Ratio.f kj3 a0_0 a0_1 bt341.1 t337 (wrap64 (a0_4 - (Int.tmod (wrap64 ((Int.tmod a2 100) + 100)) 100)))).bind fun bt347 => (if t328.isNone = true then (if t338.isNone = true then (if bt341.2.isNone = true then (if t319 = bt345.1 then (if t319 = bt347.1 then ((numerallaw12_num.f t320).bind fun t352 => ((numerallaw12_num.f bt345.2).bind fun t353 => (if t352 = t353 then ((numerallaw12_num.f t320).bind fun t354 => ((numerallaw12_num.f bt347.2).bind fun t355 => (if t354 = t355 then ((numerallaw12_works.f kj3).bind fun t356 => (some t356)) else (none)))) else (none)))) else (none)) else (none)) else (none)) else (none)) else (none))))) = some r := H
    have A34 := Aside0.mk A340
    clear A340
    replace H := Option.bind_eq_some_iff.mp H
    obtain ⟨⟨t341, t342⟩, A350, H⟩ := H
    replace H : ((round_Ratio.f kj3 a0_0 a0_1 t327 t337 a0_4).bind fun bt345 => ((round_Ratio.f kj3 a0_0 a0_1 t341 t337 (wrap64 (a0_4 - (Int.tmod (wrap64 ((Int.tmod a2 100) + 100)) 100)))).bind fun bt347 => (if t328.isNone = true then (if t338.isNone = true then (if t342.isNone = true then (if t319 = bt345.1 then (if t319 = bt347.1 then ((numerallaw12_num.f t320).bind fun t352 => ((numerallaw12_num.f bt345.2).bind fun t353 => (if t352 = t353 then ((numerallaw12_num.f t320).bind fun t354 => ((numerallaw12_num.f bt347.2).bind fun t355 => (if t354 = t355 then ((numerallaw12_works.f kj3).bind fun t356 => (some t356)) else (none)))) else (none)))) else (none)) else (none)) else (none)) else (none)) else (none)))) = some r := H
    have A35 := Aside0.mk A350
    clear A350
    replace H := Option.bind_eq_some_iff.mp H
    obtain ⟨⟨t345, t346⟩, A360, H⟩ := H
    replace H : ((round_Ratio.f kj3 a0_0 a0_1 t341 t337 (wrap64 (a0_4 - (Int.tmod (wrap64 ((Int.tmod a2 100) + 100)) 100)))).bind fun bt347 => (if t328.isNone = true then (if t338.isNone = true then (if t342.isNone = true then (if t319 = t345 then (if t319 = bt347.1 then ((numerallaw12_num.f t320).bind fun t352 => ((numerallaw12_num.f t346).bind fun t353 => (if t352 = t353 then ((numerallaw12_num.f t320).bind fun t354 => ((numerallaw12_num.f bt347.2).bind fun t355 => (if t354 = t355 then ((numerallaw12_works.f kj3).bind fun t356 => (some t356)) else (none)))) else (none)))) else (none)) else (none)) else (none)) else (none)) else (none))) = some r := H
    have A36 := Aside0.mk A360
    clear A360
    replace H := Option.bind_eq_some_iff.mp H
    obtain ⟨⟨t347, t348⟩, A370, H⟩ := H
    replace H : (if t328.isNone = true then (if t338.isNone = true then (if t342.isNone = true then (if t319 = t345 then (if t319 = t347 then ((numerallaw12_num.f t320).bind fun t352 => ((numerallaw12_num.f t346).bind fun t353 => (if t352 = t353 then ((numerallaw12_num.f t320).bind fun t354 => ((numerallaw12_num.f t348).bind fun t355 => (if t354 = t355 then ((numerallaw12_works.f kj3).bind fun t356 => (some t356)) else (none)))) else (none)))) else (none)) else (none)) else (none)) else (none)) else (none)) = some r := H
    have A37 := Aside0.mk A370
    clear A370
    rcases t328 with _ | q349
    ·have H1 : (if t338.isNone = true then (if t342.isNone = true then (if t319 = t345 then (if t319 = t347 then ((numerallaw12_num.f t320).bind fun t352 => ((numerallaw12_num.f t346).bind fun t353 => (if t352 = t353 then ((numerallaw12_num.f t320).bind fun t354 => ((numerallaw12_num.f t348).bind fun t355 => (if t354 = t355 then ((numerallaw12_works.f kj3).bind fun t356 => (some t356)) else (none)))) else (none)))) else (none)) else (none)) else (none)) else (none)) = some r := by rw [if_pos (show (none : Option Int).isNone = true by rfl)] at H; exact H
     clear H
     have H := H1
     clear H1
     try simp only [errW_none, errW_some]
     rcases t338 with _ | q350
     ·have H1 : (if t342.isNone = true then (if t319 = t345 then (if t319 = t347 then ((numerallaw12_num.f t320).bind fun t352 => ((numerallaw12_num.f t346).bind fun t353 => (if t352 = t353 then ((numerallaw12_num.f t320).bind fun t354 => ((numerallaw12_num.f t348).bind fun t355 => (if t354 = t355 then ((numerallaw12_works.f kj3).bind fun t356 => (some t356)) else (none)))) else (none)))) else (none)) else (none)) else (none)) = some r := by rw [if_pos (show (none : Option Int).isNone = true by rfl)] at H; exact H
      clear H
      have H := H1
      clear H1
      try simp only [errW_none, errW_some]
      rcases t342 with _ | q351
      ·have H1 : (if t319 = t345 then (if t319 = t347 then ((numerallaw12_num.f t320).bind fun t352 => ((numerallaw12_num.f t346).bind fun t353 => (if t352 = t353 then ((numerallaw12_num.f t320).bind fun t354 => ((numerallaw12_num.f t348).bind fun t355 => (if t354 = t355 then ((numerallaw12_works.f kj3).bind fun t356 => (some t356)) else (none)))) else (none)))) else (none)) else (none)) = some r := by rw [if_pos (show (none : Option Int).isNone = true by rfl)] at H; exact H
       clear H
       have H := H1
       clear H1
       try simp only [errW_none, errW_some]
       by_cases c38 : t319 = t345
       ·rw [if_pos c38] at H
        have c38b0 : (t319 == t345) = true := beq_iff_eq.mpr c38
        have c38b1 : (t319 != t345) = false := bne_eq_false_iff_eq.mpr c38
        clear c38
        by_cases c39 : t319 = t347
        ·rw [if_pos c39] at H
         have c39b0 : (t319 == t347) = true := beq_iff_eq.mpr c39
         have c39b1 : (t319 != t347) = false := bne_eq_false_iff_eq.mpr c39
         clear c39
         replace H := Option.bind_eq_some_iff.mp H
         obtain ⟨t352, A400, H⟩ := H
         replace H : ((numerallaw12_num.f t346).bind fun t353 => (if t352 = t353 then ((numerallaw12_num.f t320).bind fun t354 => ((numerallaw12_num.f t348).bind fun t355 => (if t354 = t355 then ((numerallaw12_works.f kj3).bind fun t356 => (some t356)) else (none)))) else (none))) = some r := H
         have A40 := Aside0.mk A400
         clear A400
         replace H := Option.bind_eq_some_iff.mp H
         obtain ⟨t353, A410, H⟩ := H
         replace H : (if t352 = t353 then ((numerallaw12_num.f t320).bind fun t354 => ((numerallaw12_num.f t348).bind fun t355 => (if t354 = t355 then ((numerallaw12_works.f kj3).bind fun t356 => (some t356)) else (none)))) else (none)) = some r := H
         have A41 := Aside0.mk A410
         clear A410
         by_cases c42 : t352 = t353
         ·rw [if_pos c42] at H
          have c42b0 : (t352 == t353) = true := beq_iff_eq.mpr c42
          have c42b1 : (t352 != t353) = false := bne_eq_false_iff_eq.mpr c42
          clear c42
          replace H := Option.bind_eq_some_iff.mp H
          obtain ⟨t354, A430, H⟩ := H
          replace H : ((numerallaw12_num.f t348).bind fun t355 => (if t354 = t355 then ((numerallaw12_works.f kj3).bind fun t356 => (some t356)) else (none))) = some r := H
          have A43 := Aside0.mk A430
          clear A430
          replace H := Option.bind_eq_some_iff.mp H
          obtain ⟨t355, A440, H⟩ := H
          replace H : (if t354 = t355 then ((numerallaw12_works.f kj3).bind fun t356 => (some t356)) else (none)) = some r := H
          have A44 := Aside0.mk A440
          clear A440
          by_cases c45 : t354 = t355
          ·rw [if_pos c45] at H
           have c45b0 : (t354 == t355) = true := beq_iff_eq.mpr c45
           have c45b0d : (t352 == t355) = true := by rw [show t352 = t354 from Option.some.inj (A40.out.symm.trans A43.out)]; exact c45b0
           have c45b1 : (t354 != t355) = false := bne_eq_false_iff_eq.mpr c45
           have c45b1d : (t352 != t355) = false := by rw [show t352 = t354 from Option.some.inj (A40.out.symm.trans A43.out)]; exact c45b1
           clear c45
           replace H := Option.bind_eq_some_iff.mp H
           obtain ⟨t356, A460, H⟩ := H
           replace H : (some t356) = some r := H
           have A46 := Aside0.mk A460
           clear A460
           obtain rfl := Option.some.inj H
           try go_wp2
           have n0_ := Aside0.mk (blk_drew BK309.out)
           have n1_ := Aside0.mk (below_drew1 HB.out)
           clear BK309
           clear HB
           have BK309 := n0_
           have HB := n1_
           clear n0_ n1_
           refine start_ (n := 18) (S := fun w' => w'.cell? ⟨gb309, 0, none⟩ = some (.int .i64 a0_0) ∧ w'.cell? ⟨gb309, 1, none⟩ = some (.bool a0_1) ∧ w'.cell? ⟨gb309, 2, none⟩ = some (.slice A0_2 l0_2.length c0_2) ∧ w'.cell? ⟨gb309, 3, none⟩ = some (.slice A0_3 l0_3.length c0_3) ∧ w'.cell? ⟨gb309, 4, none⟩ = some (.int .i64 a0_4)) (ds := []) #[false, false, false, false, false, false, false, false, false, false, false, false, false, false, false, false, false, false] (by kernel_rfl) rfl rfl ⟨(blk_cell BK309.out 0).trans rfl, (blk_cell BK309.out 1).trans rfl, (blk_cell BK309.out 2).trans rfl, (blk_cell BK309.out 3).trans rfl, (blk_cell BK309.out 4).trans rfl⟩ (fun hHeld => ?_); refine with_tabW numerallaw12_RoundSame.tab4 numerallaw12_RoundSame.bits4 (fun HT_ HW_ => ?_)
           generalize wc.drew = w47 at BK309 HB hHeld ⊢
           refine pure_ (i := 0) (N := some 67) (v := ?_) (a' := ?_) #[true, false, false, false, false, false, false, false, false, false, false, false, false, false, false, false, false, false] rfl rfl (any_of HT_.out (by kernel_rfl)) (fun _ _ _ h => h) (Or.inl ⟨by rfl, ?_⟩) ?_ ?_
           rotate_left
           ·intro w'
            go_simp
            with_reducible rfl
           rotate_left
           ·simp only [Act.put, List.setIfInBounds_toArray, List.set_cons_zero, List.set_cons_succ, i64_w, i32_w]
            rfl
           refine pure_ (i := 2) (N := some 69) (v := ?_) (a' := ?_) #[true, false, true, false, false, false, false, false, false, false, false, false, false, false, false, false, false, false] rfl rfl (any_of HT_.out (by kernel_rfl)) (fun _ _ _ h => h) (Or.inl ⟨by rfl, ?_⟩) ?_ ?_
           rotate_left
           ·intro w'
            go_simp
            with_reducible rfl
           rotate_left
           ·simp only [Act.put, List.setIfInBounds_toArray, List.set_cons_zero, List.set_cons_succ, i64_w, i32_w]
            rfl
           refine pure_ (i := 4) (N := some 71) (v := ?_) (a' := ?_) #[true, false, true, false, true, false, false, false, false, false, false, false, false, false, false, false, false, false] rfl rfl (any_of HT_.out (by kernel_rfl)) (fun _ _ _ h => h) (Or.inl ⟨by rfl, ?_⟩) ?_ ?_
           rotate_left
           ·intro w'
            go_simp
            with_reducible rfl
           rotate_left
           ·simp only [Act.put, List.setIfInBounds_toArray, List.set_cons_zero, List.set_cons_succ, i64_w, i32_w]
            rfl
           refine pure_ (i := 7) (N := some 74) (v := ?_) (a' := ?_) #[true, false, true, false, true, false, false, true, false, false, false, false, false, false, false, false, false, false] rfl rfl (any_of HT_.out (by kernel_rfl)) (fun _ _ _ h => h) (Or.inl ⟨by rfl, ?_⟩) ?_ ?_
           rotate_left
           ·intro w'
            go_simp
            with_reducible rfl
           rotate_left
           ·simp only [Act.put, List.setIfInBounds_toArray, List.set_cons_zero, List.set_cons_succ, i64_w, i32_w]
            rfl
           refine pure_ (i := 10) (N := some 77) (v := ?_) (a' := ?_) #[true, false, true, false, true, false, false, true, false, false, true, false, false, false, false, false, false, false] rfl rfl (any_of HT_.out (by kernel_rfl)) (fun _ _ _ h => h) (Or.inl ⟨by rfl, ?_⟩) ?_ ?_
           rotate_left
           ·intro w'
            go_simp
            with_reducible rfl
           rotate_left
           ·simp only [Act.put, List.setIfInBounds_toArray, List.set_cons_zero, List.set_cons_succ, i64_w, i32_w]
            rfl
           refine take_ (i := 1) (N := some 68) (v := ?_) (a' := ?_) #[true, true, true, false, true, false, false, true, false, false, true, false, false, false, false, false, false, false] rfl rfl (take_ofW HT_.out HW_.out (by kernel_rfl)) (fun _ _ _ h => h) (Or.inl ⟨by rfl, ?_⟩) hHeld ?_ ?_
           rotate_left
           ·rintro w' ⟨s0, s1, s2, s3, s4⟩
            go_simp
            with_reducible rfl
           rotate_left
           ·simp only [Act.put, List.setIfInBounds_toArray, List.set_cons_zero, List.set_cons_succ, i64_w, i32_w]
            rfl
           refine take_ (i := 3) (N := some 70) (v := ?_) (a' := ?_) #[true, true, true, true, true, false, false, true, false, false, true, false, false, false, false, false, false, false] rfl rfl (take_ofW HT_.out HW_.out (by kernel_rfl)) (fun _ _ _ h => h) (Or.inl ⟨by rfl, ?_⟩) hHeld ?_ ?_
           rotate_left
           ·rintro w' ⟨s0, s1, s2, s3, s4⟩
            go_simp
            with_reducible rfl
           rotate_left
           ·simp only [Act.put, List.setIfInBounds_toArray, List.set_cons_zero, List.set_cons_succ, i64_w, i32_w]
            rfl
           refine take_ (i := 5) (N := some 72) (v := ?_) (a' := ?_) #[true, true, true, true, true, true, false, true, false, false, true, false, false, false, false, false, false, false] rfl rfl (take_ofW HT_.out HW_.out (by kernel_rfl)) (fun _ _ _ h => h) (Or.inl ⟨by rfl, ?_⟩) hHeld ?_ ?_
           rotate_left
           ·rintro w' ⟨s0, s1, s2, s3, s4⟩
            go_simp
            with_reducible rfl
           rotate_left
           ·simp only [Act.put, List.setIfInBounds_toArray, List.set_cons_zero, List.set_cons_succ, i64_w, i32_w]
            rfl
           refine take_ (i := 8) (N := some 75) (v := ?_) (a' := ?_) #[true, true, true, true, true, true, false, true, true, false, true, false, false, false, false, false, false, false] rfl rfl (take_ofW HT_.out HW_.out (by kernel_rfl)) (fun _ _ _ h => h) (Or.inl ⟨by rfl, ?_⟩) hHeld ?_ ?_
           rotate_left
           ·rintro w' ⟨s0, s1, s2, s3, s4⟩
            go_simp
            with_reducible rfl
           rotate_left
           ·simp only [Act.put, List.setIfInBounds_toArray, List.set_cons_zero, List.set_cons_succ, i64_w, i32_w]
            rfl
           refine take_ (i := 11) (N := some 78) (v := ?_) (a' := ?_) #[true, true, true, true, true, true, false, true, true, false, true, true, false, false, false, false, false, false] rfl rfl (take_ofW HT_.out HW_.out (by kernel_rfl)) (fun _ _ _ h => h) (Or.inl ⟨by rfl, ?_⟩) hHeld ?_ ?_
           rotate_left
           ·rintro w' ⟨s0, s1, s2, s3, s4⟩
            go_simp
            with_reducible rfl
           rotate_left
           ·simp only [Act.put, List.setIfInBounds_toArray, List.set_cons_zero, List.set_cons_succ, i64_w, i32_w]
            rfl
           refine one_ (i := 6) (N := some 73) #[true, true, true, true, true, true, true, true, true, false, true, true, false, false, false, false, false, false] rfl rfl (one_of HT_.out (by kernel_rfl)) (by decide) (fun K hK => ?_)
           refine goes_ Tryd.func7 (by kernel_rfl) rfl #[.slice A0_2 l0_2.length c0_2] (by rfl) rfl rfl (by (try simp only [List.map_toArray, List.map_cons, List.map_nil]); first | done | rfl | (simp only [List.length_drop, List.length_take]; rfl)) ?_
           with_reducible refine (numerallaw12_twin.calls _ _ l0_2 t313 _ ?side1 ?side2 A26.out).mono ?_
           (case side1 => repeat (first | exact (Kd.C_below HR0_2.out HB.out) | (with_reducible refine Kd.C_alloc ?_ _) | (with_reducible refine Kd.C_drewN ?_ _) | (with_reducible refine Kd.C_drew ?_)))
           (case side2 => exact HC0_2.out)
           rintro e w48 ⟨v314, rfl, ho0, hb⟩
           refine ⟨_, rfl, ?_⟩
           have n0_ := Aside0.mk (Kd.R_lower ho0 (below_size (by repeat (first | (with_reducible first | exact HB.out | apply below_alloc | apply pw_below_drewN | apply below_drew1 | refine below_set ?_ GE309.out) | exact HB.out))))
           have n1_ := Aside0.mk (blk_below (g := gb309) (o := .cells #[.int .i64 a0_0, .bool a0_1, .slice A0_2 l0_2.length c0_2, .slice A0_3 l0_3.length c0_3, .int .i64 a0_4] 24 (0, 0)) (by (with_reducible repeat (first | refine blk_drewN ?_ _ | refine blk_drew ?_ | refine blk_alloc ?_ _)); exact BK309.out) hb)
           have n2_ := Aside0.mk (below_step (by repeat (first | (with_reducible first | exact HB.out | apply below_alloc | apply pw_below_drewN | apply below_drew1 | refine below_set ?_ GE309.out) | exact HB.out)) hb)
           clear BK309
           clear HB
           have HO315 := n0_
           have BK309 := n1_
           have HB := n2_
           clear n0_ n1_ n2_
           (try clear hb)
           (try clear hb2)
           (try clear hk)
           (try clear hi)
           (try clear ho0)
           refine hK.out _ _ ⟨(blk_cell BK309.out 0).trans rfl, (blk_cell BK309.out 1).trans rfl, (blk_cell BK309.out 2).trans rfl, (blk_cell BK309.out 3).trans rfl, (blk_cell BK309.out 4).trans rfl⟩ (fun hHeld => ?_)
           clear hK K
           refine norm_ (a' := ?_) ?_ ?_
           rotate_left
           ·show Act.put _ (some 73) _ = _
            simp only [Act.put, List.setIfInBounds_toArray, List.set_cons_zero, List.set_cons_succ, i64_w, i32_w]
            rfl
           refine one_ (i := 9) (N := some 76) #[true, true, true, true, true, true, true, true, true, true, true, true, false, false, false, false, false, false] rfl rfl (one_of HT_.out (by kernel_rfl)) (by decide) (fun K hK => ?_)
           refine goes_ Tryd.func7 (by kernel_rfl) rfl #[.slice A0_3 l0_3.length c0_3] (by rfl) rfl rfl (by (try simp only [List.map_toArray, List.map_cons, List.map_nil]); first | done | rfl | (simp only [List.length_drop, List.length_take]; rfl)) ?_
           with_reducible refine (numerallaw12_twin.calls _ _ l0_3 t316 _ ?side1 ?side2 A27.out).mono ?_
           (case side1 => repeat (first | exact (Kd.C_below HR0_3.out HB.out) | (with_reducible refine Kd.C_alloc ?_ _) | (with_reducible refine Kd.C_drewN ?_ _) | (with_reducible refine Kd.C_drew ?_)))
           (case side2 => exact HC0_3.out)
           rintro e w49 ⟨v317, rfl, ho0, hb⟩
           refine ⟨_, rfl, ?_⟩
           have n0_ := Aside0.mk (Kd.R_elder' (by (with_reducible repeat (first | apply Kd.R_alloc | apply Kd.R_drewN | apply Kd.R_drew)); exact HO315.out) (Kd.R_base ho0) hb)
           have n1_ := Aside0.mk (Kd.R_lower (Kd.R_new' ho0 (Kd.R_lt (by (with_reducible repeat (first | apply Kd.R_alloc | apply Kd.R_drewN | apply Kd.R_drew)); exact HO315.out))) (below_size (by repeat (first | (with_reducible first | exact HB.out | apply below_alloc | apply pw_below_drewN | apply below_drew1 | refine below_set ?_ GE309.out) | exact HB.out))))
           have n2_ := Aside0.mk (blk_below (g := gb309) (o := .cells #[.int .i64 a0_0, .bool a0_1, .slice A0_2 l0_2.length c0_2, .slice A0_3 l0_3.length c0_3, .int .i64 a0_4] 24 (0, 0)) (by (with_reducible repeat (first | refine blk_drewN ?_ _ | refine blk_drew ?_ | refine blk_alloc ?_ _)); exact BK309.out) hb)
           have n3_ := Aside0.mk (below_step (by repeat (first | (with_reducible first | exact HB.out | apply below_alloc | apply pw_below_drewN | apply below_drew1 | refine below_set ?_ GE309.out) | exact HB.out)) hb)
           clear HO315
           clear BK309
           clear HB
           have HO315 := n0_
           have HO318 := n1_
           have BK309 := n2_
           have HB := n3_
           clear n0_ n1_ n2_ n3_
           (try clear hb)
           (try clear hb2)
           (try clear hk)
           (try clear hi)
           (try clear ho0)
           obtain ⟨Ao50, co50, eo50⟩ := Kd.R_slice HO315.out
           (first | subst eo50 | (injection eo50 with f1_ f2_ f3_; have f4_ := f1_.symm; have f5_ := f3_.symm; clear f1_ f2_ f3_; subst f4_; subst f5_))
           obtain ⟨Ao51, co51, eo51⟩ := Kd.R_slice HO318.out
           (first | subst eo51 | (injection eo51 with f1_ f2_ f3_; have f4_ := f1_.symm; have f5_ := f3_.symm; clear f1_ f2_ f3_; subst f4_; subst f5_))
           refine hK.out _ _ ⟨(blk_cell BK309.out 0).trans rfl, (blk_cell BK309.out 1).trans rfl, (blk_cell BK309.out 2).trans rfl, (blk_cell BK309.out 3).trans rfl, (blk_cell BK309.out 4).trans rfl⟩ (fun hHeld => ?_)
           clear hK K
           refine norm_ (a' := ?_) ?_ ?_
           rotate_left
           ·show Act.put _ (some 76) _ = _
            simp only [Act.put, List.setIfInBounds_toArray, List.set_cons_zero, List.set_cons_succ, i64_w, i32_w]
            rfl
           refine one_ (i := 12) (N := some 79) #[true, true, true, true, true, true, true, true, true, true, true, true, true, false, false, false, false, false] rfl rfl (one_of HT_.out (by kernel_rfl)) (by decide) (fun K hK => ?_)
           refine goes_ Tryd.func8 (by kernel_rfl) rfl #[.int .i64 a0_0, .bool a0_1, .slice Ao50 t313.length co50, .slice Ao51 t316.length co51, .int .i64 a0_4] (by rfl) rfl rfl (by (try simp only [List.map_toArray, List.map_cons, List.map_nil]); first | done | rfl | (simp only [List.length_drop, List.length_take]; rfl)) ?_
           with_reducible refine (round_Ratio.calls kj3 a0_0 a0_1 (fun k_ => some k_ = (.slice Ao50 t313.length co50 : Value).ownBlock) _ _ t313 (fun k_ => some k_ = (.slice Ao51 t316.length co51 : Value).ownBlock) _ _ t316 a0_4 t319 t320 _ ?side1 ?side2 ?side3 A28.out).mono ?_
           (case side1 => exact Kd.R_V (Kd.R_tight rfl (Kd.R_types (HO315.out) BK309.out (by decide))))
           (case side2 => exact Kd.R_V (Kd.R_tight rfl (Kd.R_types (HO318.out) BK309.out (by decide))))
           (case side3 => exact Laid_DB64.of_below HL_DB64.out (by repeat (first | (with_reducible first | exact HB.out | apply below_alloc | apply pw_below_drewN | apply below_drew1 | refine below_set ?_ GE309.out) | exact HB.out)))
           rintro e w52 ⟨rfl, hb⟩
           refine ⟨_, rfl, ?_⟩
           have n0_ := Aside0.mk (Kd.R_below (by (with_reducible repeat (first | apply Kd.R_alloc | apply Kd.R_drewN | apply Kd.R_drew)); exact HO315.out) hb)
           have n1_ := Aside0.mk (Kd.R_below (by (with_reducible repeat (first | apply Kd.R_alloc | apply Kd.R_drewN | apply Kd.R_drew)); exact HO318.out) hb)
           have n2_ := Aside0.mk (blk_below (g := gb309) (o := .cells #[.int .i64 a0_0, .bool a0_1, .slice A0_2 l0_2.length c0_2, .slice A0_3 l0_3.length c0_3, .int .i64 a0_4] 24 (0, 0)) (by (with_reducible repeat (first | refine blk_drewN ?_ _ | refine blk_drew ?_ | refine blk_alloc ?_ _)); exact BK309.out) hb)
           have n3_ := Aside0.mk (below_step (by repeat (first | (with_reducible first | exact HB.out | apply below_alloc | apply pw_below_drewN | apply below_drew1 | refine below_set ?_ GE309.out) | exact HB.out)) hb)
           clear HO315
           clear HO318
           clear BK309
           clear HB
           have HO315 := n0_
           have HO318 := n1_
           have BK309 := n2_
           have HB := n3_
           clear n0_ n1_ n2_ n3_
           (try clear hb)
           (try clear hb2)
           (try clear hk)
           (try clear hi)
           (try simp only [errW_none, errW_some])
           refine hK.out _ _ ⟨(blk_cell BK309.out 0).trans rfl, (blk_cell BK309.out 1).trans rfl, (blk_cell BK309.out 2).trans rfl, (blk_cell BK309.out 3).trans rfl, (blk_cell BK309.out 4).trans rfl⟩ (fun hHeld => ?_)
           clear hK K
           refine norm_ (a' := ?_) ?_ ?_
           rotate_left
           ·show Act.put _ (some 79) _ = _
            simp only [Act.put, List.setIfInBounds_toArray, List.set_cons_zero, List.set_cons_succ, i64_w, i32_w]
            rfl
           refine pure_ (i := 13) (N := some 66) (v := ?_) (a' := ?_) #[true, true, true, true, true, true, true, true, true, true, true, true, true, true, false, false, false, false] rfl rfl (any_of HT_.out (by kernel_rfl)) (fun _ _ _ h => h) (Or.inl ⟨by rfl, ?_⟩) ?_ ?_
           rotate_left
           ·intro w'
            go_simp
            with_reducible rfl
           rotate_left
           ·simp only [Act.put, List.setIfInBounds_toArray, List.set_cons_zero, List.set_cons_succ, i64_w, i32_w]
            rfl
           refine pure_ (i := 14) (N := some 80) (v := ?_) (a' := ?_) #[true, true, true, true, true, true, true, true, true, true, true, true, true, true, true, false, false, false] rfl rfl (any_of HT_.out (by kernel_rfl)) (fun _ _ _ h => h) (Or.inl ⟨by rfl, ?_⟩) ?_ ?_
           rotate_left
           ·intro w'
            go_simp
            with_reducible rfl
           rotate_left
           ·simp only [Act.put, List.setIfInBounds_toArray, List.set_cons_zero, List.set_cons_succ, i64_w, i32_w]
            rfl
           refine pure_ (i := 15) (N := some 81) (v := ?_) (a' := ?_) #[true, true, true, true, true, true, true, true, true, true, true, true, true, true, true, true, false, false] rfl rfl (any_of HT_.out (by kernel_rfl)) (fun _ _ _ h => h) (Or.inl ⟨by rfl, ?_⟩) ?_ ?_
           rotate_left
           ·intro w'
            go_simp
            with_reducible rfl
           rotate_left
           ·simp only [Act.put, List.setIfInBounds_toArray, List.set_cons_zero, List.set_cons_succ, i64_w, i32_w]
            rfl
           refine pure_ (i := 16) (N := some 7) (v := ?_) (a' := ?_) #[true, true, true, true, true, true, true, true, true, true, true, true, true, true, true, true, true, false] rfl rfl (any_of HT_.out (by kernel_rfl)) (fun _ _ _ h => h) (Or.inl ⟨by rfl, ?_⟩) ?_ ?_
           rotate_left
           ·intro w'
            go_simp
            with_reducible rfl
           rotate_left
           ·simp only [Act.put, List.setIfInBounds_toArray, List.set_cons_zero, List.set_cons_succ, i64_w, i32_w]
            rfl
           refine pure_ (i := 17) (N := some 8) (v := ?_) (a' := ?_) #[true, true, true, true, true, true, true, true, true, true, true, true, true, true, true, true, true, true] rfl rfl (any_of HT_.out (by kernel_rfl)) (fun _ _ _ h => h) (Or.inl ⟨by rfl, ?_⟩) ?_ ?_
           rotate_left
           ·intro w'
            go_simp
            with_reducible rfl
           rotate_left
           ·simp only [Act.put, List.setIfInBounds_toArray, List.set_cons_zero, List.set_cons_succ, i64_w, i32_w]
            rfl
           refine done_ (done_of HT_.out (by kernel_rfl)) ?_
           have hcz53_0 : w52.cell? ⟨gb309, 0, none⟩ = some (.int .i64 a0_0) := (blk_cell BK309.out 0).trans rfl
           have hcz53_1 : w52.cell? ⟨gb309, 1, none⟩ = some (.bool a0_1) := (blk_cell BK309.out 1).trans rfl
           have hcz53_2 : w52.cell? ⟨gb309, 2, none⟩ = some (.slice A0_2 l0_2.length c0_2) := (blk_cell BK309.out 2).trans rfl
           have hcz53_3 : w52.cell? ⟨gb309, 3, none⟩ = some (.slice A0_3 l0_3.length c0_3) := (blk_cell BK309.out 3).trans rfl
           have hcz53_4 : w52.cell? ⟨gb309, 4, none⟩ = some (.int .i64 a0_4) := (blk_cell BK309.out 4).trans rfl
           have hfz53_0 := blk_frozen BK309.out 0
           have hfz53_1 := blk_frozen BK309.out 1
           have hfz53_2 := blk_frozen BK309.out 2
           have hfz53_3 := blk_frozen BK309.out 3
           have hfz53_4 := blk_frozen BK309.out 4
           try go_wp2_with (first | ((with_reducible refine gate_callee (f := 7) rfl ?_); refine goesL_ (some 85) rfl rfl Tryd.func7 (by kernel_rfl) rfl #[.slice A0_2 l0_2.length c0_2] rfl (by (try simp only [List.map_toArray, List.map_cons, List.map_nil]); first | done | rfl | (simp only [List.length_drop, List.length_take]; rfl)) ?_; (with_reducible refine (numerallaw12_twin.calls _ _ l0_2 t321 _ ?side1 ?side2 A29.out).mono ?_); (case side1 => repeat (first | exact (Kd.C_below HR0_2.out HB.out) | (with_reducible refine Kd.C_alloc ?_ _) | (with_reducible refine Kd.C_drewN ?_ _) | (with_reducible refine Kd.C_drew ?_))); (case side2 => exact HC0_2.out); rintro e w54 ⟨v322, rfl, ho0, hb⟩; refine ⟨_, rfl, ?_⟩; have n0_ := Aside0.mk (Kd.R_elder' (by (with_reducible repeat (first | apply Kd.R_alloc | apply Kd.R_drewN | apply Kd.R_drew)); exact HO315.out) (Kd.R_base ho0) hb); have n1_ := Aside0.mk (Kd.R_elder' (by (with_reducible repeat (first | apply Kd.R_alloc | apply Kd.R_drewN | apply Kd.R_drew)); exact HO318.out) (Kd.R_base ho0) hb); have n2_ := Aside0.mk (Kd.R_lower (Kd.R_new' (Kd.R_new' ho0 (Kd.R_lt (by (with_reducible repeat (first | apply Kd.R_alloc | apply Kd.R_drewN | apply Kd.R_drew)); exact HO315.out))) (Kd.R_lt (by (with_reducible repeat (first | apply Kd.R_alloc | apply Kd.R_drewN | apply Kd.R_drew)); exact HO318.out))) (below_size (by repeat (first | (with_reducible first | exact HB.out | apply below_alloc | apply pw_below_drewN | apply below_drew1 | refine below_set ?_ GE309.out) | exact HB.out)))); have n3_ := Aside0.mk (blk_below (g := gb309) (o := .cells #[.int .i64 a0_0, .bool a0_1, .slice A0_2 l0_2.length c0_2, .slice A0_3 l0_3.length c0_3, .int .i64 a0_4] 24 (0, 0)) (by (with_reducible repeat (first | refine blk_drewN ?_ _ | refine blk_drew ?_ | refine blk_alloc ?_ _)); exact BK309.out) hb); have n4_ := Aside0.mk (below_step (by repeat (first | (with_reducible first | exact HB.out | apply below_alloc | apply pw_below_drewN | apply below_drew1 | refine below_set ?_ GE309.out) | exact HB.out)) hb); clear HO315; clear HO318; clear BK309; clear HB; have HO315 := n0_; have HO318 := n1_; have HO323 := n2_; have BK309 := n3_; have HB := n4_; clear n0_ n1_ n2_ n3_ n4_; (try clear hb); (try clear hb2); (try clear hk); (try clear hi); (try clear ho0)) | ((with_reducible refine gate_callee (f := 21) rfl ?_); refine goesL_ (some 87) rfl rfl Tryd.func21 (by kernel_rfl) rfl #[.int .u64 a1] rfl (by (try simp only [List.map_toArray, List.map_cons, List.map_nil]); first | done | rfl | (simp only [List.length_drop, List.length_take]; rfl)) ?_; (with_reducible refine (nat_Of.calls kj3 a1 t324 _ A30.out).mono ?_); rintro e w55 ⟨v325, rfl, ho0, hb⟩; refine ⟨_, rfl, ?_⟩; have n0_ := Aside0.mk (Kd.R_elder' (by (with_reducible repeat (first | apply Kd.R_alloc | apply Kd.R_drewN | apply Kd.R_drew)); exact HO315.out) (Kd.Q_base ho0) hb); have n1_ := Aside0.mk (Kd.R_elder' (by (with_reducible repeat (first | apply Kd.R_alloc | apply Kd.R_drewN | apply Kd.R_drew)); exact HO318.out) (Kd.Q_base ho0) hb); have n2_ := Aside0.mk (Kd.R_elder' (by (with_reducible repeat (first | apply Kd.R_alloc | apply Kd.R_drewN | apply Kd.R_drew)); exact HO323.out) (Kd.Q_base ho0) hb); have n3_ := Aside0.mk (Kd.Q_lower (Kd.Q_new' (Kd.Q_new' (Kd.Q_new' ho0 (Kd.R_lt (by (with_reducible repeat (first | apply Kd.R_alloc | apply Kd.R_drewN | apply Kd.R_drew)); exact HO315.out))) (Kd.R_lt (by (with_reducible repeat (first | apply Kd.R_alloc | apply Kd.R_drewN | apply Kd.R_drew)); exact HO318.out))) (Kd.R_lt (by (with_reducible repeat (first | apply Kd.R_alloc | apply Kd.R_drewN | apply Kd.R_drew)); exact HO323.out))) (below_size (by repeat (first | (with_reducible first | exact HB.out | apply below_alloc | apply pw_below_drewN | apply below_drew1 | refine below_set ?_ GE309.out) | exact HB.out)))); have n4_ := Aside0.mk (blk_below (g := gb309) (o := .cells #[.int .i64 a0_0, .bool a0_1, .slice A0_2 l0_2.length c0_2, .slice A0_3 l0_3.length c0_3, .int .i64 a0_4] 24 (0, 0)) (by (with_reducible repeat (first | refine blk_drewN ?_ _ | refine blk_drew ?_ | refine blk_alloc ?_ _)); exact BK309.out) hb); have n5_ := Aside0.mk (below_step (by repeat (first | (with_reducible first | exact HB.out | apply below_alloc | apply pw_below_drewN | apply below_drew1 | refine below_set ?_ GE309.out) | exact HB.out)) hb); clear HO315; clear HO318; clear HO323; clear BK309; clear HB; have HO315 := n0_; have HO318 := n1_; have HO323 := n2_; have HO326 := n3_; have BK309 := n4_; have HB := n5_; clear n0_ n1_ n2_ n3_ n4_ n5_; (try clear hb); (try clear hb2); (try clear hk); (try clear hi); (try clear ho0); obtain ⟨Ao56, co56, eo56⟩ := Kd.R_slice HO323.out; subst eo56; obtain ⟨Ao57, co57, eo57, _⟩ := Kd.Q_slice HO326.out; subst eo57) | ((with_reducible refine gate_callee (f := 20) rfl ?_); refine goesL_ (some 88) rfl rfl Tryd.func20 (by kernel_rfl) rfl #[.slice Ao56 t321.length co56, .slice Ao57 t324.length co57] rfl (by (try simp only [List.map_toArray, List.map_cons, List.map_nil]); first | done | rfl | (simp only [List.length_drop, List.length_take]; rfl)) ?_; (with_reducible refine (nat_Mul.calls kj3 _ _ t321 _ _ t324 t327 none _ ?side1 ?side2 ?side3 ?side4 A31.out).mono ?_); (case side1 => repeat (first | exact (Kd.R_reads' HO323.out).2.2 | (with_reducible refine Kd.C_alloc ?_ _) | (with_reducible refine Kd.C_drewN ?_ _) | (with_reducible refine Kd.C_drew ?_))); (case side2 => exact (Kd.R_reads' HO323.out).2.1); (case side3 => repeat (first | exact (Kd.Q_reads' HO326.out).2.2 | (with_reducible refine Kd.C_alloc ?_ _) | (with_reducible refine Kd.C_drewN ?_ _) | (with_reducible refine Kd.C_drew ?_))); (case side4 => exact (Kd.Q_reads' HO326.out).2.1); rintro e w58 ⟨v329, rfl, ho0, hb⟩; refine ⟨_, rfl, ?_⟩; have n0_ := Aside0.mk (Kd.R_elder' (by (with_reducible repeat (first | apply Kd.R_alloc | apply Kd.R_drewN | apply Kd.R_drew)); exact HO315.out) (Kd.Q_base ho0) hb); have n1_ := Aside0.mk (Kd.R_elder' (by (with_reducible repeat (first | apply Kd.R_alloc | apply Kd.R_drewN | apply Kd.R_drew)); exact HO318.out) (Kd.Q_base ho0) hb); have n2_ := Aside0.mk (Kd.R_elder' (by (with_reducible repeat (first | apply Kd.R_alloc | apply Kd.R_drewN | apply Kd.R_drew)); exact HO323.out) (Kd.Q_base ho0) hb); have n3_ := Aside0.mk (Kd.Q_elder' (by (with_reducible repeat (first | apply Kd.Q_alloc | apply Kd.Q_drewN | apply Kd.Q_drew)); exact HO326.out) (Kd.Q_base ho0) hb); have n4_ := Aside0.mk (Kd.Q_lower (Kd.Q_new' (Kd.Q_new' (Kd.Q_new' (Kd.Q_new' ho0 (Kd.R_lt (by (with_reducible repeat (first | apply Kd.R_alloc | apply Kd.R_drewN | apply Kd.R_drew)); exact HO315.out))) (Kd.R_lt (by (with_reducible repeat (first | apply Kd.R_alloc | apply Kd.R_drewN | apply Kd.R_drew)); exact HO318.out))) (Kd.R_lt (by (with_reducible repeat (first | apply Kd.R_alloc | apply Kd.R_drewN | apply Kd.R_drew)); exact HO323.out))) (Kd.Q_lt (by (with_reducible repeat (first | apply Kd.Q_alloc | apply Kd.Q_drewN | apply Kd.Q_drew)); exact HO326.out))) (below_size (by repeat (first | (with_reducible first | exact HB.out | apply below_alloc | apply pw_below_drewN | apply below_drew1 | refine below_set ?_ GE309.out) | exact HB.out)))); have n5_ := Aside0.mk (blk_below (g := gb309) (o := .cells #[.int .i64 a0_0, .bool a0_1, .slice A0_2 l0_2.length c0_2, .slice A0_3 l0_3.length c0_3, .int .i64 a0_4] 24 (0, 0)) (by (with_reducible repeat (first | refine blk_drewN ?_ _ | refine blk_drew ?_ | refine blk_alloc ?_ _)); exact BK309.out) hb); have n6_ := Aside0.mk (below_step (by repeat (first | (with_reducible first | exact HB.out | apply below_alloc | apply pw_below_drewN | apply below_drew1 | refine below_set ?_ GE309.out) | exact HB.out)) hb); clear HO315; clear HO318; clear HO323; clear HO326; clear BK309; clear HB; have HO315 := n0_; have HO318 := n1_; have HO323 := n2_; have HO326 := n3_; have HO330 := n4_; have BK309 := n5_; have HB := n6_; clear n0_ n1_ n2_ n3_ n4_ n5_ n6_; (try clear hb); (try clear hb2); (try clear hk); (try clear hi); (try clear ho0); (try simp only [errW_none, errW_some]); have hcz59_0 : w58.cell? ⟨gb309, 0, none⟩ = some (.int .i64 a0_0) := (blk_cell BK309.out 0).trans rfl; have hcz59_1 : w58.cell? ⟨gb309, 1, none⟩ = some (.bool a0_1) := (blk_cell BK309.out 1).trans rfl; have hcz59_2 : w58.cell? ⟨gb309, 2, none⟩ = some (.slice A0_2 l0_2.length c0_2) := (blk_cell BK309.out 2).trans rfl; have hcz59_3 : w58.cell? ⟨gb309, 3, none⟩ = some (.slice A0_3 l0_3.length c0_3) := (blk_cell BK309.out 3).trans rfl; have hcz59_4 : w58.cell? ⟨gb309, 4, none⟩ = some (.int .i64 a0_4) := (blk_cell BK309.out 4).trans rfl; have hfz59_0 := blk_frozen BK309.out 0; have hfz59_1 := blk_frozen BK309.out 1; have hfz59_2 := blk_frozen BK309.out 2; have hfz59_3 := blk_frozen BK309.out 3; have hfz59_4 := blk_frozen BK309.out 4) | ((with_reducible refine gate_callee (f := 7) rfl ?_); refine goesL_ (some 94) rfl rfl Tryd.func7 (by kernel_rfl) rfl #[.slice A0_3 l0_3.length c0_3] rfl (by (try simp only [List.map_toArray, List.map_cons, List.map_nil]); first | done | rfl | (simp only [List.length_drop, List.length_take]; rfl)) ?_; (with_reducible refine (numerallaw12_twin.calls _ _ l0_3 t331 _ ?side1 ?side2 A32.out).mono ?_); (case side1 => repeat (first | exact (Kd.C_below HR0_3.out HB.out) | (with_reducible refine Kd.C_alloc ?_ _) | (with_reducible refine Kd.C_drewN ?_ _) | (with_reducible refine Kd.C_drew ?_))); (case side2 => exact HC0_3.out); rintro e w60 ⟨v332, rfl, ho0, hb⟩; refine ⟨_, rfl, ?_⟩; have n0_ := Aside0.mk (Kd.R_elder' (by (with_reducible repeat (first | apply Kd.R_alloc | apply Kd.R_drewN | apply Kd.R_drew)); exact HO315.out) (Kd.R_base ho0) hb); have n1_ := Aside0.mk (Kd.R_elder' (by (with_reducible repeat (first | apply Kd.R_alloc | apply Kd.R_drewN | apply Kd.R_drew)); exact HO318.out) (Kd.R_base ho0) hb); have n2_ := Aside0.mk (Kd.R_elder' (by (with_reducible repeat (first | apply Kd.R_alloc | apply Kd.R_drewN | apply Kd.R_drew)); exact HO323.out) (Kd.R_base ho0) hb); have n3_ := Aside0.mk (Kd.Q_elder' (by (with_reducible repeat (first | apply Kd.Q_alloc | apply Kd.Q_drewN | apply Kd.Q_drew)); exact HO326.out) (Kd.R_base ho0) hb); have n4_ := Aside0.mk (Kd.Q_elder' (by (with_reducible repeat (first | apply Kd.Q_alloc | apply Kd.Q_drewN | apply Kd.Q_drew)); exact HO330.out) (Kd.R_base ho0) hb); have n5_ := Aside0.mk (Kd.R_lower (Kd.R_new' (Kd.R_new' (Kd.R_new' (Kd.R_new' (Kd.R_new' ho0 (Kd.R_lt (by (with_reducible repeat (first | apply Kd.R_alloc | apply Kd.R_drewN | apply Kd.R_drew)); exact HO315.out))) (Kd.R_lt (by (with_reducible repeat (first | apply Kd.R_alloc | apply Kd.R_drewN | apply Kd.R_drew)); exact HO318.out))) (Kd.R_lt (by (with_reducible repeat (first | apply Kd.R_alloc | apply Kd.R_drewN | apply Kd.R_drew)); exact HO323.out))) (Kd.Q_lt (by (with_reducible repeat (first | apply Kd.Q_alloc | apply Kd.Q_drewN | apply Kd.Q_drew)); exact HO326.out))) (Kd.Q_lt (by (with_reducible repeat (first | apply Kd.Q_alloc | apply Kd.Q_drewN | apply Kd.Q_drew)); exact HO330.out))) (below_size (by repeat (first | (with_reducible first | exact HB.out | apply below_alloc | apply pw_below_drewN | apply below_drew1 | refine below_set ?_ GE309.out) | exact HB.out)))); have n6_ := Aside0.mk (blk_below (g := gb309) (o := .cells #[.int .i64 a0_0, .bool a0_1, .slice A0_2 l0_2.length c0_2, .slice A0_3 l0_3.length c0_3, .int .i64 a0_4] 24 (0, 0)) (by (with_reducible repeat (first | refine blk_drewN ?_ _ | refine blk_drew ?_ | refine blk_alloc ?_ _)); exact BK309.out) hb); have n7_ := Aside0.mk (below_step (by repeat (first | (with_reducible first | exact HB.out | apply below_alloc | apply pw_below_drewN | apply below_drew1 | refine below_set ?_ GE309.out) | exact HB.out)) hb); clear HO315; clear HO318; clear HO323; clear HO326; clear HO330; clear BK309; clear HB; have HO315 := n0_; have HO318 := n1_; have HO323 := n2_; have HO326 := n3_; have HO330 := n4_; have HO333 := n5_; have BK309 := n6_; have HB := n7_; clear n0_ n1_ n2_ n3_ n4_ n5_ n6_ n7_; (try clear hb); (try clear hb2); (try clear hk); (try clear hi); (try clear ho0)) | ((with_reducible refine gate_callee (f := 21) rfl ?_); refine goesL_ (some 96) rfl rfl Tryd.func21 (by kernel_rfl) rfl #[.int .u64 a1] rfl (by (try simp only [List.map_toArray, List.map_cons, List.map_nil]); first | done | rfl | (simp only [List.length_drop, List.length_take]; rfl)) ?_; (with_reducible refine (nat_Of.calls kj3 a1 t334 _ A33.out).mono ?_); rintro e w61 ⟨v335, rfl, ho0, hb⟩; refine ⟨_, rfl, ?_⟩; have n0_ := Aside0.mk (Kd.R_elder' (by (with_reducible repeat (first | apply Kd.R_alloc | apply Kd.R_drewN | apply Kd.R_drew)); exact HO315.out) (Kd.Q_base ho0) hb); have n1_ := Aside0.mk (Kd.R_elder' (by (with_reducible repeat (first | apply Kd.R_alloc | apply Kd.R_drewN | apply Kd.R_drew)); exact HO318.out) (Kd.Q_base ho0) hb); have n2_ := Aside0.mk (Kd.R_elder' (by (with_reducible repeat (first | apply Kd.R_alloc | apply Kd.R_drewN | apply Kd.R_drew)); exact HO323.out) (Kd.Q_base ho0) hb); have n3_ := Aside0.mk (Kd.Q_elder' (by (with_reducible repeat (first | apply Kd.Q_alloc | apply Kd.Q_drewN | apply Kd.Q_drew)); exact HO326.out) (Kd.Q_base ho0) hb); have n4_ := Aside0.mk (Kd.Q_elder' (by (with_reducible repeat (first | apply Kd.Q_alloc | apply Kd.Q_drewN | apply Kd.Q_drew)); exact HO330.out) (Kd.Q_base ho0) hb); have n5_ := Aside0.mk (Kd.R_elder' (by (with_reducible repeat (first | apply Kd.R_alloc | apply Kd.R_drewN | apply Kd.R_drew)); exact HO333.out) (Kd.Q_base ho0) hb); have n6_ := Aside0.mk (Kd.Q_lower (Kd.Q_new' (Kd.Q_new' (Kd.Q_new' (Kd.Q_new' (Kd.Q_new' (Kd.Q_new' ho0 (Kd.R_lt (by (with_reducible repeat (first | apply Kd.R_alloc | apply Kd.R_drewN | apply Kd.R_drew)); exact HO315.out))) (Kd.R_lt (by (with_reducible repeat (first | apply Kd.R_alloc | apply Kd.R_drewN | apply Kd.R_drew)); exact HO318.out))) (Kd.R_lt (by (with_reducible repeat (first | apply Kd.R_alloc | apply Kd.R_drewN | apply Kd.R_drew)); exact HO323.out))) (Kd.Q_lt (by (with_reducible repeat (first | apply Kd.Q_alloc | apply Kd.Q_drewN | apply Kd.Q_drew)); exact HO326.out))) (Kd.Q_lt (by (with_reducible repeat (first | apply Kd.Q_alloc | apply Kd.Q_drewN | apply Kd.Q_drew)); exact HO330.out))) (Kd.R_lt (by (with_reducible repeat (first | apply Kd.R_alloc | apply Kd.R_drewN | apply Kd.R_drew)); exact HO333.out))) (below_size (by repeat (first | (with_reducible first | exact HB.out | apply below_alloc | apply pw_below_drewN | apply below_drew1 | refine below_set ?_ GE309.out) | exact HB.out)))); have n7_ := Aside0.mk (blk_below (g := gb309) (o := .cells #[.int .i64 a0_0, .bool a0_1, .slice A0_2 l0_2.length c0_2, .slice A0_3 l0_3.length c0_3, .int .i64 a0_4] 24 (0, 0)) (by (with_reducible repeat (first | refine blk_drewN ?_ _ | refine blk_drew ?_ | refine blk_alloc ?_ _)); exact BK309.out) hb); have n8_ := Aside0.mk (below_step (by repeat (first | (with_reducible first | exact HB.out | apply below_alloc | apply pw_below_drewN | apply below_drew1 | refine below_set ?_ GE309.out) | exact HB.out)) hb); clear HO315; clear HO318; clear HO323; clear HO326; clear HO330; clear HO333; clear BK309; clear HB; have HO315 := n0_; have HO318 := n1_; have HO323 := n2_; have HO326 := n3_; have HO330 := n4_; have HO333 := n5_; have HO336 := n6_; have BK309 := n7_; have HB := n8_; clear n0_ n1_ n2_ n3_ n4_ n5_ n6_ n7_ n8_; (try clear hb); (try clear hb2); (try clear hk); (try clear hi); (try clear ho0); obtain ⟨Ao62, co62, eo62⟩ := Kd.R_slice HO333.out; subst eo62; obtain ⟨Ao63, co63, eo63, _⟩ := Kd.Q_slice HO336.out; subst eo63) | ((with_reducible refine gate_callee (f := 20) rfl ?_); refine goesL_ (some 97) rfl rfl Tryd.func20 (by kernel_rfl) rfl #[.slice Ao62 t331.length co62, .slice Ao63 t334.length co63] rfl (by (try simp only [List.map_toArray, List.map_cons, List.map_nil]); first | done | rfl | (simp only [List.length_drop, List.length_take]; rfl)) ?_; (with_reducible refine (nat_Mul.calls kj3 _ _ t331 _ _ t334 t337 none _ ?side1 ?side2 ?side3 ?side4 A34.out).mono ?_); (case side1 => repeat (first | exact (Kd.R_reads' HO333.out).2.2 | (with_reducible refine Kd.C_alloc ?_ _) | (with_reducible refine Kd.C_drewN ?_ _) | (with_reducible refine Kd.C_drew ?_))); (case side2 => exact (Kd.R_reads' HO333.out).2.1); (case side3 => repeat (first | exact (Kd.Q_reads' HO336.out).2.2 | (with_reducible refine Kd.C_alloc ?_ _) | (with_reducible refine Kd.C_drewN ?_ _) | (with_reducible refine Kd.C_drew ?_))); (case side4 => exact (Kd.Q_reads' HO336.out).2.1); rintro e w64 ⟨v339, rfl, ho0, hb⟩; refine ⟨_, rfl, ?_⟩; have n0_ := Aside0.mk (Kd.R_elder' (by (with_reducible repeat (first | apply Kd.R_alloc | apply Kd.R_drewN | apply Kd.R_drew)); exact HO315.out) (Kd.Q_base ho0) hb); have n1_ := Aside0.mk (Kd.R_elder' (by (with_reducible repeat (first | apply Kd.R_alloc | apply Kd.R_drewN | apply Kd.R_drew)); exact HO318.out) (Kd.Q_base ho0) hb); have n2_ := Aside0.mk (Kd.R_elder' (by (with_reducible repeat (first | apply Kd.R_alloc | apply Kd.R_drewN | apply Kd.R_drew)); exact HO323.out) (Kd.Q_base ho0) hb); have n3_ := Aside0.mk (Kd.Q_elder' (by (with_reducible repeat (first | apply Kd.Q_alloc | apply Kd.Q_drewN | apply Kd.Q_drew)); exact HO326.out) (Kd.Q_base ho0) hb); have n4_ := Aside0.mk (Kd.Q_elder' (by (with_reducible repeat (first | apply Kd.Q_alloc | apply Kd.Q_drewN | apply Kd.Q_drew)); exact HO330.out) (Kd.Q_base ho0) hb); have n5_ := Aside0.mk (Kd.R_elder' (by (with_reducible repeat (first | apply Kd.R_alloc | apply Kd.R_drewN | apply Kd.R_drew)); exact HO333.out) (Kd.Q_base ho0) hb); have n6_ := Aside0.mk (Kd.Q_elder' (by (with_reducible repeat (first | apply Kd.Q_alloc | apply Kd.Q_drewN | apply Kd.Q_drew)); exact HO336.out) (Kd.Q_base ho0) hb); have n7_ := Aside0.mk (Kd.Q_lower (Kd.Q_new' (Kd.Q_new' (Kd.Q_new' (Kd.Q_new' (Kd.Q_new' (Kd.Q_new' (Kd.Q_new' ho0 (Kd.R_lt (by (with_reducible repeat (first | apply Kd.R_alloc | apply Kd.R_drewN | apply Kd.R_drew)); exact HO315.out))) (Kd.R_lt (by (with_reducible repeat (first | apply Kd.R_alloc | apply Kd.R_drewN | apply Kd.R_drew)); exact HO318.out))) (Kd.R_lt (by (with_reducible repeat (first | apply Kd.R_alloc | apply Kd.R_drewN | apply Kd.R_drew)); exact HO323.out))) (Kd.Q_lt (by (with_reducible repeat (first | apply Kd.Q_alloc | apply Kd.Q_drewN | apply Kd.Q_drew)); exact HO326.out))) (Kd.Q_lt (by (with_reducible repeat (first | apply Kd.Q_alloc | apply Kd.Q_drewN | apply Kd.Q_drew)); exact HO330.out))) (Kd.R_lt (by (with_reducible repeat (first | apply Kd.R_alloc | apply Kd.R_drewN | apply Kd.R_drew)); exact HO333.out))) (Kd.Q_lt (by (with_reducible repeat (first | apply Kd.Q_alloc | apply Kd.Q_drewN | apply Kd.Q_drew)); exact HO336.out))) (below_size (by repeat (first | (with_reducible first | exact HB.out | apply below_alloc | apply pw_below_drewN | apply below_drew1 | refine below_set ?_ GE309.out) | exact HB.out)))); have n8_ := Aside0.mk (blk_below (g := gb309) (o := .cells #[.int .i64 a0_0, .bool a0_1, .slice A0_2 l0_2.length c0_2, .slice A0_3 l0_3.length c0_3, .int .i64 a0_4] 24 (0, 0)) (by (with_reducible repeat (first | refine blk_drewN ?_ _ | refine blk_drew ?_ | refine blk_alloc ?_ _)); exact BK309.out) hb); have n9_ := Aside0.mk (below_step (by repeat (first | (with_reducible first | exact HB.out | apply below_alloc | apply pw_below_drewN | apply below_drew1 | refine below_set ?_ GE309.out) | exact HB.out)) hb); clear HO315; clear HO318; clear HO323; clear HO326; clear HO330; clear HO333; clear HO336; clear BK309; clear HB; have HO315 := n0_; have HO318 := n1_; have HO323 := n2_; have HO326 := n3_; have HO330 := n4_; have HO333 := n5_; have HO336 := n6_; have HO340 := n7_; have BK309 := n8_; have HB := n9_; clear n0_ n1_ n2_ n3_ n4_ n5_ n6_ n7_ n8_ n9_; (try clear hb); (try clear hb2); (try clear hk); (try clear hi); (try clear ho0); (try simp only [errW_none, errW_some]); obtain ⟨Ao65, co65, eo65, _⟩ := Kd.Q_slice HO330.out; subst eo65) | ((with_reducible refine gate_callee (f := 22) rfl ?_); refine goesL_ (some 103) rfl rfl Tryd.func22 (by kernel_rfl) rfl #[.slice Ao65 t327.length co65, .int .i64 (Int.tmod (wrap64 ((Int.tmod a2 100) + 100)) 100)] rfl (by (try simp only [List.map_toArray, List.map_cons, List.map_nil]); first | done | rfl | (simp only [List.length_drop, List.length_take]; rfl)) ?_; (with_reducible refine (nat_Shl.calls kj3 _ _ t327 (Int.tmod (wrap64 ((Int.tmod a2 100) + 100)) 100) t341 none _ ?side1 ?side2 A35.out).mono ?_); (case side1 => repeat (first | exact (Kd.Q_reads' HO330.out).2.2 | (with_reducible refine Kd.C_alloc ?_ _) | (with_reducible refine Kd.C_drewN ?_ _) | (with_reducible refine Kd.C_drew ?_))); (case side2 => exact (Kd.Q_reads' HO330.out).2.1); rintro e w66 ⟨v343, rfl, ho0, hb⟩; refine ⟨_, rfl, ?_⟩; have n0_ := Aside0.mk (Kd.R_elder' (by (with_reducible repeat (first | apply Kd.R_alloc | apply Kd.R_drewN | apply Kd.R_drew)); exact HO315.out) (Kd.Q_base ho0) hb); have n1_ := Aside0.mk (Kd.R_elder' (by (with_reducible repeat (first | apply Kd.R_alloc | apply Kd.R_drewN | apply Kd.R_drew)); exact HO318.out) (Kd.Q_base ho0) hb); have n2_ := Aside0.mk (Kd.R_elder' (by (with_reducible repeat (first | apply Kd.R_alloc | apply Kd.R_drewN | apply Kd.R_drew)); exact HO323.out) (Kd.Q_base ho0) hb); have n3_ := Aside0.mk (Kd.Q_elder' (by (with_reducible repeat (first | apply Kd.Q_alloc | apply Kd.Q_drewN | apply Kd.Q_drew)); exact HO326.out) (Kd.Q_base ho0) hb); have n4_ := Aside0.mk (Kd.Q_elder' (by (with_reducible repeat (first | apply Kd.Q_alloc | apply Kd.Q_drewN | apply Kd.Q_drew)); exact HO330.out) (Kd.Q_base ho0) hb); have n5_ := Aside0.mk (Kd.R_elder' (by (with_reducible repeat (first | apply Kd.R_alloc | apply Kd.R_drewN | apply Kd.R_drew)); exact HO333.out) (Kd.Q_base ho0) hb); have n6_ := Aside0.mk (Kd.Q_elder' (by (with_reducible repeat (first | apply Kd.Q_alloc | apply Kd.Q_drewN | apply Kd.Q_drew)); exact HO336.out) (Kd.Q_base ho0) hb); have n7_ := Aside0.mk (Kd.Q_elder' (by (with_reducible repeat (first | apply Kd.Q_alloc | apply Kd.Q_drewN | apply Kd.Q_drew)); exact HO340.out) (Kd.Q_base ho0) hb); have n8_ := Aside0.mk (Kd.Q_lower (Kd.Q_new' (Kd.Q_new' (Kd.Q_new' (Kd.Q_new' (Kd.Q_new' (Kd.Q_new' (Kd.Q_new' (Kd.Q_new' ho0 (Kd.R_lt (by (with_reducible repeat (first | apply Kd.R_alloc | apply Kd.R_drewN | apply Kd.R_drew)); exact HO315.out))) (Kd.R_lt (by (with_reducible repeat (first | apply Kd.R_alloc | apply Kd.R_drewN | apply Kd.R_drew)); exact HO318.out))) (Kd.R_lt (by (with_reducible repeat (first | apply Kd.R_alloc | apply Kd.R_drewN | apply Kd.R_drew)); exact HO323.out))) (Kd.Q_lt (by (with_reducible repeat (first | apply Kd.Q_alloc | apply Kd.Q_drewN | apply Kd.Q_drew)); exact HO326.out))) (Kd.Q_lt (by (with_reducible repeat (first | apply Kd.Q_alloc | apply Kd.Q_drewN | apply Kd.Q_drew)); exact HO330.out))) (Kd.R_lt (by (with_reducible repeat (first | apply Kd.R_alloc | apply Kd.R_drewN | apply Kd.R_drew)); exact HO333.out))) (Kd.Q_lt (by (with_reducible repeat (first | apply Kd.Q_alloc | apply Kd.Q_drewN | apply Kd.Q_drew)); exact HO336.out))) (Kd.Q_lt (by (with_reducible repeat (first | apply Kd.Q_alloc | apply Kd.Q_drewN | apply Kd.Q_drew)); exact HO340.out))) (below_size (by repeat (first | (with_reducible first | exact HB.out | apply below_alloc | apply pw_below_drewN | apply below_drew1 | refine below_set ?_ GE309.out) | exact HB.out)))); have n9_ := Aside0.mk (blk_below (g := gb309) (o := .cells #[.int .i64 a0_0, .bool a0_1, .slice A0_2 l0_2.length c0_2, .slice A0_3 l0_3.length c0_3, .int .i64 a0_4] 24 (0, 0)) (by (with_reducible repeat (first | refine blk_drewN ?_ _ | refine blk_drew ?_ | refine blk_alloc ?_ _)); exact BK309.out) hb); have n10_ := Aside0.mk (below_step (by repeat (first | (with_reducible first | exact HB.out | apply below_alloc | apply pw_below_drewN | apply below_drew1 | refine below_set ?_ GE309.out) | exact HB.out)) hb); clear HO315; clear HO318; clear HO323; clear HO326; clear HO330; clear HO333; clear HO336; clear HO340; clear BK309; clear HB; have HO315 := n0_; have HO318 := n1_; have HO323 := n2_; have HO326 := n3_; have HO330 := n4_; have HO333 := n5_; have HO336 := n6_; have HO340 := n7_; have HO344 := n8_; have BK309 := n9_; have HB := n10_; clear n0_ n1_ n2_ n3_ n4_ n5_ n6_ n7_ n8_ n9_ n10_; (try clear hb); (try clear hb2); (try clear hk); (try clear hi); (try clear ho0); (try simp only [errW_none, errW_some]); have hcz67_0 : w66.cell? ⟨gb309, 0, none⟩ = some (.int .i64 a0_0) := (blk_cell BK309.out 0).trans rfl; have hcz67_1 : w66.cell? ⟨gb309, 1, none⟩ = some (.bool a0_1) := (blk_cell BK309.out 1).trans rfl; have hcz67_2 : w66.cell? ⟨gb309, 2, none⟩ = some (.slice A0_2 l0_2.length c0_2) := (blk_cell BK309.out 2).trans rfl; have hcz67_3 : w66.cell? ⟨gb309, 3, none⟩ = some (.slice A0_3 l0_3.length c0_3) := (blk_cell BK309.out 3).trans rfl; have hcz67_4 : w66.cell? ⟨gb309, 4, none⟩ = some (.int .i64 a0_4) := (blk_cell BK309.out 4).trans rfl; have hfz67_0 := blk_frozen BK309.out 0; have hfz67_1 := blk_frozen BK309.out 1; have hfz67_2 := blk_frozen BK309.out 2; have hfz67_3 := blk_frozen BK309.out 3; have hfz67_4 := blk_frozen BK309.out 4; obtain ⟨Ao68, co68, eo68, _⟩ := Kd.Q_slice HO340.out; subst eo68) | ((with_reducible refine gate_callee (f := 8) rfl ?_); refine goesL_ (some 115) rfl rfl Tryd.func8 (by kernel_rfl) rfl #[.int .i64 a0_0, .bool a0_1, .slice Ao65 t327.length co65, .slice Ao68 t337.length co68, .int .i64 a0_4] rfl (by (try simp only [List.map_toArray, List.map_cons, List.map_nil]); first | done | rfl | (simp only [List.length_drop, List.length_take]; rfl)) ?_; (with_reducible refine (round_Ratio.calls kj3 a0_0 a0_1 (fun k_ => some k_ = (.slice Ao65 t327.length co65 : Value).ownBlock) _ _ t327 (fun k_ => some k_ = (.slice Ao68 t337.length co68 : Value).ownBlock) _ _ t337 a0_4 t345 t346 _ ?side1 ?side2 ?side3 A36.out).mono ?_); (case side1 => exact Kd.Q_V (Kd.Q_tight rfl (Kd.Q_types (HO330.out) BK309.out (by decide)))); (case side2 => exact Kd.Q_V (Kd.Q_tight rfl (Kd.Q_types (HO340.out) BK309.out (by decide)))); (case side3 => exact Laid_DB64.of_below HL_DB64.out (by repeat (first | (with_reducible first | exact HB.out | apply below_alloc | apply pw_below_drewN | apply below_drew1 | refine below_set ?_ GE309.out) | exact HB.out))); rintro e w69 ⟨rfl, hb⟩; refine ⟨_, rfl, ?_⟩; have n0_ := Aside0.mk (Kd.R_below (by (with_reducible repeat (first | apply Kd.R_alloc | apply Kd.R_drewN | apply Kd.R_drew)); exact HO315.out) hb); have n1_ := Aside0.mk (Kd.R_below (by (with_reducible repeat (first | apply Kd.R_alloc | apply Kd.R_drewN | apply Kd.R_drew)); exact HO318.out) hb); have n2_ := Aside0.mk (Kd.R_below (by (with_reducible repeat (first | apply Kd.R_alloc | apply Kd.R_drewN | apply Kd.R_drew)); exact HO323.out) hb); have n3_ := Aside0.mk (Kd.Q_below (by (with_reducible repeat (first | apply Kd.Q_alloc | apply Kd.Q_drewN | apply Kd.Q_drew)); exact HO326.out) hb); have n4_ := Aside0.mk (Kd.Q_below (by (with_reducible repeat (first | apply Kd.Q_alloc | apply Kd.Q_drewN | apply Kd.Q_drew)); exact HO330.out) hb); have n5_ := Aside0.mk (Kd.R_below (by (with_reducible repeat (first | apply Kd.R_alloc | apply Kd.R_drewN | apply Kd.R_drew)); exact HO333.out) hb); have n6_ := Aside0.mk (Kd.Q_below (by (with_reducible repeat (first | apply Kd.Q_alloc | apply Kd.Q_drewN | apply Kd.Q_drew)); exact HO336.out) hb); have n7_ := Aside0.mk (Kd.Q_below (by (with_reducible repeat (first | apply Kd.Q_alloc | apply Kd.Q_drewN | apply Kd.Q_drew)); exact HO340.out) hb); have n8_ := Aside0.mk (Kd.Q_below (by (with_reducible repeat (first | apply Kd.Q_alloc | apply Kd.Q_drewN | apply Kd.Q_drew)); exact HO344.out) hb); have n9_ := Aside0.mk (blk_below (g := gb309) (o := .cells #[.int .i64 a0_0, .bool a0_1, .slice A0_2 l0_2.length c0_2, .slice A0_3 l0_3.length c0_3, .int .i64 a0_4] 24 (0, 0)) (by (with_reducible repeat (first | refine blk_drewN ?_ _ | refine blk_drew ?_ | refine blk_alloc ?_ _)); exact BK309.out) hb); have n10_ := Aside0.mk (below_step (by repeat (first | (with_reducible first | exact HB.out | apply below_alloc | apply pw_below_drewN | apply below_drew1 | refine below_set ?_ GE309.out) | exact HB.out)) hb); clear HO315; clear HO318; clear HO323; clear HO326; clear HO330; clear HO333; clear HO336; clear HO340; clear HO344; clear BK309; clear HB; have HO315 := n0_; have HO318 := n1_; have HO323 := n2_; have HO326 := n3_; have HO330 := n4_; have HO333 := n5_; have HO336 := n6_; have HO340 := n7_; have HO344 := n8_; have BK309 := n9_; have HB := n10_; clear n0_ n1_ n2_ n3_ n4_ n5_ n6_ n7_ n8_ n9_ n10_; (try clear hb); (try clear hb2); (try clear hk); (try clear hi); (try simp only [errW_none, errW_some]); have hcz70_0 : w69.cell? ⟨gb309, 0, none⟩ = some (.int .i64 a0_0) := (blk_cell BK309.out 0).trans rfl; have hcz70_1 : w69.cell? ⟨gb309, 1, none⟩ = some (.bool a0_1) := (blk_cell BK309.out 1).trans rfl; have hcz70_2 : w69.cell? ⟨gb309, 2, none⟩ = some (.slice A0_2 l0_2.length c0_2) := (blk_cell BK309.out 2).trans rfl; have hcz70_3 : w69.cell? ⟨gb309, 3, none⟩ = some (.slice A0_3 l0_3.length c0_3) := (blk_cell BK309.out 3).trans rfl; have hcz70_4 : w69.cell? ⟨gb309, 4, none⟩ = some (.int .i64 a0_4) := (blk_cell BK309.out 4).trans rfl; have hfz70_0 := blk_frozen BK309.out 0; have hfz70_1 := blk_frozen BK309.out 1; have hfz70_2 := blk_frozen BK309.out 2; have hfz70_3 := blk_frozen BK309.out 3; have hfz70_4 := blk_frozen BK309.out 4; obtain ⟨Ao71, co71, eo71, _⟩ := Kd.Q_slice HO344.out; subst eo71) | ((with_reducible refine gate_callee (f := 8) rfl ?_); refine goesL_ (some 129) rfl rfl Tryd.func8 (by kernel_rfl) rfl #[.int .i64 a0_0, .bool a0_1, .slice Ao71 t341.length co71, .slice Ao68 t337.length co68, .int .i64 (wrap64 (a0_4 - (Int.tmod (wrap64 ((Int.tmod a2 100) + 100)) 100)))] rfl (by (try simp only [List.map_toArray, List.map_cons, List.map_nil]); first | done | rfl | (simp only [List.length_drop, List.length_take]; rfl)) ?_; (with_reducible refine (round_Ratio.calls kj3 a0_0 a0_1 (fun k_ => some k_ = (.slice Ao71 t341.length co71 : Value).ownBlock) _ _ t341 (fun k_ => some k_ = (.slice Ao68 t337.length co68 : Value).ownBlock) _ _ t337 (wrap64 (a0_4 - (Int.tmod (wrap64 ((Int.tmod a2 100) + 100)) 100))) t347 t348 _ ?side1 ?side2 ?side3 A37.out).mono ?_); (case side1 => exact Kd.Q_V (Kd.Q_tight rfl (Kd.Q_types (HO344.out) BK309.out (by decide)))); (case side2 => exact Kd.Q_V (Kd.Q_tight rfl (Kd.Q_types (HO340.out) BK309.out (by decide)))); (case side3 => exact Laid_DB64.of_below HL_DB64.out (by repeat (first | (with_reducible first | exact HB.out | apply below_alloc | apply pw_below_drewN | apply below_drew1 | refine below_set ?_ GE309.out) | exact HB.out))); rintro e w72 ⟨rfl, hb⟩; refine ⟨_, rfl, ?_⟩; have n0_ := Aside0.mk (Kd.R_below (by (with_reducible repeat (first | apply Kd.R_alloc | apply Kd.R_drewN | apply Kd.R_drew)); exact HO315.out) hb); have n1_ := Aside0.mk (Kd.R_below (by (with_reducible repeat (first | apply Kd.R_alloc | apply Kd.R_drewN | apply Kd.R_drew)); exact HO318.out) hb); have n2_ := Aside0.mk (Kd.R_below (by (with_reducible repeat (first | apply Kd.R_alloc | apply Kd.R_drewN | apply Kd.R_drew)); exact HO323.out) hb); have n3_ := Aside0.mk (Kd.Q_below (by (with_reducible repeat (first | apply Kd.Q_alloc | apply Kd.Q_drewN | apply Kd.Q_drew)); exact HO326.out) hb); have n4_ := Aside0.mk (Kd.Q_below (by (with_reducible repeat (first | apply Kd.Q_alloc | apply Kd.Q_drewN | apply Kd.Q_drew)); exact HO330.out) hb); have n5_ := Aside0.mk (Kd.R_below (by (with_reducible repeat (first | apply Kd.R_alloc | apply Kd.R_drewN | apply Kd.R_drew)); exact HO333.out) hb); have n6_ := Aside0.mk (Kd.Q_below (by (with_reducible repeat (first | apply Kd.Q_alloc | apply Kd.Q_drewN | apply Kd.Q_drew)); exact HO336.out) hb); have n7_ := Aside0.mk (Kd.Q_below (by (with_reducible repeat (first | apply Kd.Q_alloc | apply Kd.Q_drewN | apply Kd.Q_drew)); exact HO340.out) hb); have n8_ := Aside0.mk (Kd.Q_below (by (with_reducible repeat (first | apply Kd.Q_alloc | apply Kd.Q_drewN | apply Kd.Q_drew)); exact HO344.out) hb); have n9_ := Aside0.mk (blk_below (g := gb309) (o := .cells #[.int .i64 a0_0, .bool a0_1, .slice A0_2 l0_2.length c0_2, .slice A0_3 l0_3.length c0_3, .int .i64 a0_4] 24 (0, 0)) (by (with_reducible repeat (first | refine blk_drewN ?_ _ | refine blk_drew ?_ | refine blk_alloc ?_ _)); exact BK309.out) hb); have n10_ := Aside0.mk (below_step (by repeat (first | (with_reducible first | exact HB.out | apply below_alloc | apply pw_below_drewN | apply below_drew1 | refine below_set ?_ GE309.out) | exact HB.out)) hb); clear HO315; clear HO318; clear HO323; clear HO326; clear HO330; clear HO333; clear HO336; clear HO340; clear HO344; clear BK309; clear HB; have HO315 := n0_; have HO318 := n1_; have HO323 := n2_; have HO326 := n3_; have HO330 := n4_; have HO333 := n5_; have HO336 := n6_; have HO340 := n7_; have HO344 := n8_; have BK309 := n9_; have HB := n10_; clear n0_ n1_ n2_ n3_ n4_ n5_ n6_ n7_ n8_ n9_ n10_; (try clear hb); (try clear hb2); (try clear hk); (try clear hi); (try simp only [errW_none, errW_some]); have CA40 := fun W => numerallaw12_num.calls t320 t352 W A40.out; (try simp only [errW_none, errW_some] at CA40); have CA41 := fun W => numerallaw12_num.calls t346 t353 W A41.out; (try simp only [errW_none, errW_some] at CA41); have CA43 := fun W => numerallaw12_num.calls t320 t354 W A43.out; (try simp only [errW_none, errW_some] at CA43); have CA44 := fun W => numerallaw12_num.calls t348 t355 W A44.out; (try simp only [errW_none, errW_some] at CA44)) | (go_at_call 10; (with_reducible refine (CA40 _).mono ?_); rintro e w' ⟨rfl, ⟨nd, rfl⟩⟩; have CA41 := fun W => numerallaw12_num.calls t346 t353 W A41.out; try simp only [errW_none, errW_some] at CA41) | (go_at_call 10; (with_reducible refine (CA41 _).mono ?_); rintro e w' ⟨rfl, ⟨nd, rfl⟩⟩; have CA43 := fun W => numerallaw12_num.calls t320 t354 W A43.out; try simp only [errW_none, errW_some] at CA43) | (go_at_call 10; (with_reducible refine (CA43 _).mono ?_); rintro e w' ⟨rfl, ⟨nd, rfl⟩⟩; have CA44 := fun W => numerallaw12_num.calls t348 t355 W A44.out; try simp only [errW_none, errW_some] at CA44) | (go_at_call 10; (with_reducible refine (CA44 _).mono ?_); rintro e w' ⟨rfl, ⟨nd, rfl⟩⟩) | (go_at_call 12; (with_reducible refine (numerallaw12_works.calls kj3  t356 _ ?side1 A46.out).mono ?_); (case side1 => exact Laid_DB64.of_below HL_DB64.out (by repeat (first | (with_reducible first | exact HB.out | apply below_alloc | apply pw_below_drewN | apply below_drew1 | refine below_set ?_ GE309.out) | exact HB.out))); rintro e w73 ⟨rfl, hb⟩; have n0_ := Aside0.mk (Kd.R_below (by (with_reducible repeat (first | apply Kd.R_alloc | apply Kd.R_drewN | apply Kd.R_drew)); exact HO315.out) hb); have n1_ := Aside0.mk (Kd.R_below (by (with_reducible repeat (first | apply Kd.R_alloc | apply Kd.R_drewN | apply Kd.R_drew)); exact HO318.out) hb); have n2_ := Aside0.mk (Kd.R_below (by (with_reducible repeat (first | apply Kd.R_alloc | apply Kd.R_drewN | apply Kd.R_drew)); exact HO323.out) hb); have n3_ := Aside0.mk (Kd.Q_below (by (with_reducible repeat (first | apply Kd.Q_alloc | apply Kd.Q_drewN | apply Kd.Q_drew)); exact HO326.out) hb); have n4_ := Aside0.mk (Kd.Q_below (by (with_reducible repeat (first | apply Kd.Q_alloc | apply Kd.Q_drewN | apply Kd.Q_drew)); exact HO330.out) hb); have n5_ := Aside0.mk (Kd.R_below (by (with_reducible repeat (first | apply Kd.R_alloc | apply Kd.R_drewN | apply Kd.R_drew)); exact HO333.out) hb); have n6_ := Aside0.mk (Kd.Q_below (by (with_reducible repeat (first | apply Kd.Q_alloc | apply Kd.Q_drewN | apply Kd.Q_drew)); exact HO336.out) hb); have n7_ := Aside0.mk (Kd.Q_below (by (with_reducible repeat (first | apply Kd.Q_alloc | apply Kd.Q_drewN | apply Kd.Q_drew)); exact HO340.out) hb); have n8_ := Aside0.mk (Kd.Q_below (by (with_reducible repeat (first | apply Kd.Q_alloc | apply Kd.Q_drewN | apply Kd.Q_drew)); exact HO344.out) hb); have n9_ := Aside0.mk (blk_below (g := gb309) (o := .cells #[.int .i64 a0_0, .bool a0_1, .slice A0_2 l0_2.length c0_2, .slice A0_3 l0_3.length c0_3, .int .i64 a0_4] 24 (0, 0)) (by (with_reducible repeat (first | refine blk_drewN ?_ _ | refine blk_drew ?_ | refine blk_alloc ?_ _)); exact BK309.out) hb); have n10_ := Aside0.mk (below_step (by repeat (first | (with_reducible first | exact HB.out | apply below_alloc | apply pw_below_drewN | apply below_drew1 | refine below_set ?_ GE309.out) | exact HB.out)) hb); clear HO315; clear HO318; clear HO323; clear HO326; clear HO330; clear HO333; clear HO336; clear HO340; clear HO344; clear BK309; clear HB; have HO315 := n0_; have HO318 := n1_; have HO323 := n2_; have HO326 := n3_; have HO330 := n4_; have HO333 := n5_; have HO336 := n6_; have HO340 := n7_; have HO344 := n8_; have BK309 := n9_; have HB := n10_; clear n0_ n1_ n2_ n3_ n4_ n5_ n6_ n7_ n8_ n9_ n10_; (try clear hb); (try clear hb2); (try clear hk); (try clear hi)))
           go_ret
           exact ⟨by first | rfl | (simp [errW_none, errW_some] <;> rfl) | (simp [*, errW_none, errW_some] <;> rfl), by repeat (first | (with_reducible first | exact HB.out | apply below_alloc | apply pw_below_drewN | apply below_drew1 | refine below_set ?_ GE309.out) | exact HB.out)⟩
          ·rw [if_neg c45] at H
           exact absurd H (by simp)
         ·rw [if_neg c42] at H
          exact absurd H (by simp)
        ·rw [if_neg c39] at H
         exact absurd H (by simp)
       ·rw [if_neg c38] at H
        exact absurd H (by simp)
      ·have H1 : (none) = some r := by rw [if_neg (show ¬ (some q351).isNone = true by simp)] at H; exact H
       clear H
       have H := H1
       clear H1
       try simp only [errW_none, errW_some]
       exact absurd H (by simp)
     ·have H1 : (none) = some r := by rw [if_neg (show ¬ (some q350).isNone = true by simp)] at H; exact H
      clear H
      have H := H1
      clear H1
      try simp only [errW_none, errW_some]
      exact absurd H (by simp)
    ·have H1 : (none) = some r := by rw [if_neg (show ¬ (some q349).isNone = true by simp)] at H; exact H
     clear H
     have H := H1
     clear H1
     try simp only [errW_none, errW_some]
     exact absurd H (by simp)

/-- THE ONE PURE STATEMENT of numerallaw12_RoundSame: mine to prove. -/
def numerallaw12_RoundSame.Pure : Prop := ∀ (a0_0 : Int) (a0_1 : Bool) (l0_2 : List Int) (l0_3 : List Int) (a0_4 : Int) (a1 : Int) (a2 : Int), (Lit.int .i64 a0_0).wf = true → l0_2.length ≤ maxLen → l0_2.length * 8 ≤ 140737488351232 → (∀ x ∈ l0_2, (Lit.int .u64 x).wf = true) → l0_3.length ≤ maxLen → l0_3.length * 8 ≤ 140737488351232 → (∀ x ∈ l0_3, (Lit.int .u64 x).wf = true) → (Lit.int .i64 a0_4).wf = true → (Lit.int .u64 a1).wf = true → (Lit.int .i64 a2).wf = true → ∃ k, numerallaw12_RoundSame.f k a0_0 a0_1 l0_2 l0_3 a0_4 a1 a2 = some true
theorem numerallaw12_RoundSame.walk (P : numerallaw12_RoundSame.Pure) (a0_0 : Int) (a0_1 : Bool) (a0_2 : Option Addr) (len0_2 cap0_2 : Nat) (z0_2 : List Int) (a0_3 : Option Addr) (len0_3 cap0_3 : Nat) (z0_3 : List Int) (a0_4 : Int) (a1 : Int) (a2 : Int) (w : World) (w0_0 : (Lit.int .i64 a0_0).wf = true) (w0_2 : (a0_2 = none ∧ len0_2 = 0 ∧ cap0_2 = 0 ∧ z0_2 = []) ∨ ∃ x, a0_2 = some x ∧ len0_2 ≤ cap0_2 ∧ cap0_2 ≤ maxLen ∧ z0_2.length = cap0_2 ∧ (∀ i, i < z0_2.length → w.cell? (x.add i) = some (.int .u64 (z0_2.getD i 0))) ∧ ∀ n ∈ z0_2, (Lit.int .u64 n).wf = true) (y0_2 : len0_2 * 8 ≤ 140737488351232) (w0_3 : (a0_3 = none ∧ len0_3 = 0 ∧ cap0_3 = 0 ∧ z0_3 = []) ∨ ∃ x, a0_3 = some x ∧ len0_3 ≤ cap0_3 ∧ cap0_3 ≤ maxLen ∧ z0_3.length = cap0_3 ∧ (∀ i, i < z0_3.length → w.cell? (x.add i) = some (.int .u64 (z0_3.getD i 0))) ∧ ∀ n ∈ z0_3, (Lit.int .u64 n).wf = true) (y0_3 : len0_3 * 8 ≤ 140737488351232) (w0_4 : (Lit.int .i64 a0_4).wf = true) (w1 : (Lit.int .u64 a1).wf = true) (w2 : (Lit.int .i64 a2).wf = true) (hl_DB64 : Laid_DB64 w) :
  Calls Tryd.prog 6 #[.agg #[.int .i64 a0_0, .bool a0_1, .slice a0_2 len0_2 cap0_2, .slice a0_3 len0_3 cap0_3, .int .i64 a0_4], .int .u64 a1, .int .i64 a2] w fun e w' => e = .returned (.bool true) ∧ Below w.heap.size w w' := by
 obtain ⟨l0_2, rfl, hr0_2, hm0_2, hw0_2, hc0_2⟩ := ReadsInt.ofRowC w0_2
 obtain ⟨l0_3, rfl, hr0_3, hm0_3, hw0_3, hc0_3⟩ := ReadsInt.ofRowC w0_3
 obtain ⟨k, h⟩ := P a0_0 a0_1 l0_2 l0_3 a0_4 a1 a2 w0_0 hm0_2 y0_2 hw0_2 hm0_3 y0_3 hw0_3 w0_4 w1 w2
 refine (numerallaw12_RoundSame.calls k a0_0 a0_1 _ _ l0_2 _ _ l0_3 a0_4 a1 a2 true w (Kd.C_of_reads (d := (0 : Int)) (h1 := fun _ => rfl) hr0_2) hc0_2 (Kd.C_of_reads (d := (0 : Int)) (h1 := fun _ => rfl) hr0_3) hc0_3 hl_DB64 h).mono ?_
 rintro e w' ⟨rfl, hd⟩
 exact ⟨rfl, hd⟩

end Go.Proofs.YtbjmfocjigikgaaDoor.Xs
