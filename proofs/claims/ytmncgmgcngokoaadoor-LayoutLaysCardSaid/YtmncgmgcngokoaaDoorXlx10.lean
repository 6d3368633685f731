-- PRINTED by print.py (a twelfth state) out of the translation. Not trusted: Lean checks it.
import Derived.Test.YtmncgmgcngokoaaDoorXlx0
import Derived.Test.YtmncgmgcngokoaaDoorXlx6
import Derived.Test.YtmncgmgcngokoaaDoorXlx7
import Derived.Test.YtmncgmgcngokoaaDoorXlx8
import Derived.Test.YtmncgmgcngokoaaDoorXlx9
namespace Go.Proofs.YtmncgmgcngokoaaDoor.Xl
open Go.RowKit Go.Proofs.YtmncgmgcngokoaaDoorW.PrintWords Go.Proofs.YtmncgmgcngokoaaDoorW.PrintLast Go.Proofs.YtmncgmgcngokoaaDoorW.PrintMore
attribute [local go_sem] max2_int min2_int max_two min_two max_three min_three max_four min_four   -- for this text's walks alone
set_option linter.unusedVariables false
set_option linter.unusedSimpArgs false

/-! ### numeralref24_Lay: function 7 -/
mutual
def numeralref24_Lay.j0 : Nat → Bool → Int → Int → Bool → ByteArray → Int → Bool → Option (ByteArray × Int)
  | 0, _, _, _, _, _, _, _ => none
  | k + 1, x0, x2, x3, x30, x196000, x196001, x196002 => if x30 = true then (some ((⟨#[]⟩ : ByteArray), 1)) else ((numeralref24_Asks.f k x2 x3).bind fun bt197 => (if bt197.2.2 = 0 then (if x3 ≥ 0 then (if bt197.2.1 = true then (numeralref24_Lay.j1 k x0 x2 x3 (decide ((wrap64 ((x196000.size : Int) - x196001)) > bt197.1)) x196000 x196001 x196002) else (if (x196000.size : Int) > bt197.1 then (numeralref24_Lay.j1 k x0 x2 x3 true x196000 x196001 x196002) else (numeralref24_Lay.j1 k x0 x2 x3 false x196000 x196001 x196002))) else (numeralref24_Lay.j1 k x0 x2 x3 false x196000 x196001 x196002)) else (some ((⟨#[]⟩ : ByteArray), bt197.2.2))))
def numeralref24_Lay.j1 : Nat → Bool → Int → Int → Bool → ByteArray → Int → Bool → Option (ByteArray × Int)
  | 0, _, _, _, _, _, _, _ => none
  | k + 1, x0, x2, x3, x66, x196000, x196001, x196002 => if x66 = true then (some ((⟨#[]⟩ : ByteArray), 30)) else (if x2 = 101 then (numeralref24_Lay.j2 k x0 x2 x3 x2 (x2 == 101) x196000 x196001 x196002) else (numeralref24_Lay.j2 k x0 x2 x3 x2 (x2 == 69) x196000 x196001 x196002))
def numeralref24_Lay.j2 : Nat → Bool → Int → Int → Int → Bool → ByteArray → Int → Bool → Option (ByteArray × Int)
  | 0, _, _, _, _, _, _, _, _ => none
  | k + 1, x0, x2, x3, x67, x73, x196000, x196001, x196002 => if x73 = true then ((numeralref24_sci.f k x196000 x196001 x196002 x3 (x2 == 69)).bind fun t200 => (if x0 = true then (if 1 + t200.size ≤ 9223372036854775807 then (some ((⟨#[45]⟩ : ByteArray) ++ t200, 0)) else (none)) else (some (t200, 0)))) else (if x67 = 102 then ((numeralref24_plain.f k x196000 x196001 x196002 x3).bind fun t201 => (if x0 = true then (if 1 + t201.size ≤ 9223372036854775807 then (some ((⟨#[45]⟩ : ByteArray) ++ t201, 0)) else (none)) else (some (t201, 0)))) else ((numeralref24_general.f k x196000 x196001 x196002 x3 (x2 == 71)).bind fun t202 => (if x0 = true then (if 1 + t202.size ≤ 9223372036854775807 then (some ((⟨#[45]⟩ : ByteArray) ++ t202, 0)) else (none)) else (some (t202, 0)))))
end
def numeralref24_Lay.f (k : Nat) (a0 : Bool) (a1_0 : ByteArray) (a1_1 : Int) (a1_2 : Bool) (a2 : Int) (a3 : Int) : Option (ByteArray × Int) := (numeralref03_Valid.f k a1_0 a1_1 a1_2).bind fun t196 => (if t196 = 0 then (if a1_2 = true then (numeralref24_Lay.j0 k a0 a2 a3 true a1_0 a1_1 a1_2) else (if a1_1 < (-1200) then (numeralref24_Lay.j0 k a0 a2 a3 true a1_0 a1_1 a1_2) else (numeralref24_Lay.j0 k a0 a2 a3 (decide (a1_1 > 400)) a1_0 a1_1 a1_2))) else (numeralref24_Lay.j0 k a0 a2 a3 true a1_0 a1_1 a1_2))
theorem numeralref24_Lay.mono_l : ∀ k, (∀ y0 y1 y2 y3 y4 y5 y6, LeO (numeralref24_Lay.j0 k y0 y1 y2 y3 y4 y5 y6) (numeralref24_Lay.j0 (k + 1) y0 y1 y2 y3 y4 y5 y6)) ∧ (∀ y0 y1 y2 y3 y4 y5 y6, LeO (numeralref24_Lay.j1 k y0 y1 y2 y3 y4 y5 y6) (numeralref24_Lay.j1 (k + 1) y0 y1 y2 y3 y4 y5 y6)) ∧ (∀ y0 y1 y2 y3 y4 y5 y6 y7, LeO (numeralref24_Lay.j2 k y0 y1 y2 y3 y4 y5 y6 y7) (numeralref24_Lay.j2 (k + 1) y0 y1 y2 y3 y4 y5 y6 y7))
  | 0 => ⟨fun _ _ _ _ _ _ _ r h => by simp [numeralref24_Lay.j0] at h, fun _ _ _ _ _ _ _ r h => by simp [numeralref24_Lay.j1] at h, fun _ _ _ _ _ _ _ _ r h => by simp [numeralref24_Lay.j2] at h⟩
  | k + 1 => by
    obtain ⟨ih0, ih1, ih2⟩ := numeralref24_Lay.mono_l k
    refine ⟨?_, ?_, ?_⟩
    · intro y0 y1 y2 y3 y4 y5 y6
      unfold numeralref24_Lay.j0
      repeat' first
      | (with_reducible exact ih0 _ _ _ _ _ _ _)
      | (with_reducible exact ih1 _ _ _ _ _ _ _)
      | (with_reducible exact ih2 _ _ _ _ _ _ _ _)
      | (with_reducible exact numeralref03_Valid.mono _ _ _ _)
      | (with_reducible exact numeralref24_Asks.mono _ _ _)
      | (with_reducible exact numeralref24_general.mono _ _ _ _ _ _)
      | (with_reducible exact numeralref24_plain.mono _ _ _ _ _)
      | (with_reducible exact numeralref24_sci.mono _ _ _ _ _ _)
      | (with_reducible exact LeO.refl _)
      | (with_reducible exact LeO.none _)
      | (with_reducible refine LeO.ite ?_ ?_)
      | (with_reducible refine LeO.bind ?_ (fun _ => ?_))
      | exact ih0 _ _ _ _ _ _ _
      | exact ih1 _ _ _ _ _ _ _
      | exact ih2 _ _ _ _ _ _ _ _
      | exact numeralref03_Valid.mono _ _ _ _
      | exact numeralref24_Asks.mono _ _ _
      | exact numeralref24_general.mono _ _ _ _ _ _
      | exact numeralref24_plain.mono _ _ _ _ _
      | exact numeralref24_sci.mono _ _ _ _ _ _
      | exact LeO.none _
      | refine LeO.ite ?_ ?_
      | refine LeO.bind ?_ (fun _ => ?_)
    · intro y0 y1 y2 y3 y4 y5 y6
      unfold numeralref24_Lay.j1
      repeat' first
      | (with_reducible exact ih0 _ _ _ _ _ _ _)
      | (with_reducible exact ih1 _ _ _ _ _ _ _)
      | (with_reducible exact ih2 _ _ _ _ _ _ _ _)
      | (with_reducible exact numeralref03_Valid.mono _ _ _ _)
      | (with_reducible exact numeralref24_Asks.mono _ _ _)
      | (with_reducible exact numeralref24_general.mono _ _ _ _ _ _)
      | (with_reducible exact numeralref24_plain.mono _ _ _ _ _)
      | (with_reducible exact numeralref24_sci.mono _ _ _ _ _ _)
      | (with_reducible exact LeO.refl _)
      | (with_reducible exact LeO.none _)
      | (with_reducible refine LeO.ite ?_ ?_)
      | (with_reducible refine LeO.bind ?_ (fun _ => ?_))
      | exact ih0 _ _ _ _ _ _ _
      | exact ih1 _ _ _ _ _ _ _
      | exact ih2 _ _ _ _ _ _ _ _
      | exact numeralref03_Valid.mono _ _ _ _
      | exact numeralref24_Asks.mono _ _ _
      | exact numeralref24_general.mono _ _ _ _ _ _
      | exact numeralref24_plain.mono _ _ _ _ _
      | exact numeralref24_sci.mono _ _ _ _ _ _
      | exact LeO.none _
      | refine LeO.ite ?_ ?_
      | refine LeO.bind ?_ (fun _ => ?_)
    · intro y0 y1 y2 y3 y4 y5 y6 y7
      unfold numeralref24_Lay.j2
      repeat' first
      | (with_reducible exact ih0 _ _ _ _ _ _ _)
      | (with_reducible exact ih1 _ _ _ _ _ _ _)
      | (with_reducible exact ih2 _ _ _ _ _ _ _ _)
      | (with_reducible exact numeralref03_Valid.mono _ _ _ _)
      | (with_reducible exact numeralref24_Asks.mono _ _ _)
      | (with_reducible exact numeralref24_general.mono _ _ _ _ _ _)
      | (with_reducible exact numeralref24_plain.mono _ _ _ _ _)
      | (with_reducible exact numeralref24_sci.mono _ _ _ _ _ _)
      | (with_reducible exact LeO.refl _)
      | (with_reducible exact LeO.none _)
      | (with_reducible refine LeO.ite ?_ ?_)
      | (with_reducible refine LeO.bind ?_ (fun _ => ?_))
      | exact ih0 _ _ _ _ _ _ _
      | exact ih1 _ _ _ _ _ _ _
      | exact ih2 _ _ _ _ _ _ _ _
      | exact numeralref03_Valid.mono _ _ _ _
      | exact numeralref24_Asks.mono _ _ _
      | exact numeralref24_general.mono _ _ _ _ _ _
      | exact numeralref24_plain.mono _ _ _ _ _
      | exact numeralref24_sci.mono _ _ _ _ _ _
      | exact LeO.none _
      | refine LeO.ite ?_ ?_
      | refine LeO.bind ?_ (fun _ => ?_)
theorem numeralref24_Lay.mono : ∀ a0 a1 a2 a3 a4 a5 k, LeO (numeralref24_Lay.f k a0 a1 a2 a3 a4 a5) (numeralref24_Lay.f (k + 1) a0 a1 a2 a3 a4 a5) := by
  intro a0 a1 a2 a3 a4 a5 k
  obtain ⟨ih0, ih1, ih2⟩ := numeralref24_Lay.mono_l k
  unfold numeralref24_Lay.f
  repeat' first
      | (with_reducible exact ih0 _ _ _ _ _ _ _)
      | (with_reducible exact ih1 _ _ _ _ _ _ _)
      | (with_reducible exact ih2 _ _ _ _ _ _ _ _)
      | (with_reducible exact numeralref03_Valid.mono _ _ _ _)
      | (with_reducible exact numeralref24_Asks.mono _ _ _)
      | (with_reducible exact numeralref24_general.mono _ _ _ _ _ _)
      | (with_reducible exact numeralref24_plain.mono _ _ _ _ _)
      | (with_reducible exact numeralref24_sci.mono _ _ _ _ _ _)
      | (with_reducible exact LeO.refl _)
      | (with_reducible exact LeO.none _)
      | (with_reducible refine LeO.ite ?_ ?_)
      | (with_reducible refine LeO.bind ?_ (fun _ => ?_))
      | exact ih0 _ _ _ _ _ _ _
      | exact ih1 _ _ _ _ _ _ _
      | exact ih2 _ _ _ _ _ _ _ _
      | exact numeralref03_Valid.mono _ _ _ _
      | exact numeralref24_Asks.mono _ _ _
      | exact numeralref24_general.mono _ _ _ _ _ _
      | exact numeralref24_plain.mono _ _ _ _ _
      | exact numeralref24_sci.mono _ _ _ _ _ _
      | exact LeO.none _
      | refine LeO.ite ?_ ?_
      | refine LeO.bind ?_ (fun _ => ?_)
set_option maxHeartbeats 8000000 in
set_option maxRecDepth 100000 in
theorem numeralref24_Lay.calls (k : Nat) (a0 : Bool) (a1_0 : ByteArray) (a1_1 : Int) (a1_2 : Bool) (a2 : Int) (a3 : Int) (r1 : ByteArray) (r2 : Int) (w : World) (h : numeralref24_Lay.f k a0 a1_0 a1_1 a1_2 a2 a3 = some (r1, r2)) :
    Calls Tryd.prog 7 #[.bool a0, .agg #[.string a1_0, .int .i64 a1_1, .bool a1_2], .int .u8 a2, .int .i64 a3] w fun e w' => e = .returned (.tuple #[.string r1, .int .i64 r2]) ∧ Below w.heap.size w w' := by
  have hu23 := Tryd.underlying23
  have HB := Aside0.mk (Below.refl w.heap.size w)
  have H : ((numeralref03_Valid.f k a1_0 a1_1 a1_2).bind fun t196 => (if t196 = 0 then (if a1_2 = true then (numeralref24_Lay.j0 k a0 a2 a3 true a1_0 a1_1 a1_2) else (if a1_1 < (-1200) then (numeralref24_Lay.j0 k a0 a2 a3 true a1_0 a1_1 a1_2) else (numeralref24_Lay.j0 k a0 a2 a3 (decide (a1_1 > 400)) a1_0 a1_1 a1_2))) else (numeralref24_Lay.j0 k a0 a2 a3 true a1_0 a1_1 a1_2))) = some (r1, r2) := h
  clear h
  have HC5 := Aside0.mk H
  clear H
  go_enter Tryd.func7, Tryd.ntmps7
  go_upto_region 1 with (first | ((with_reducible refine gate_dst (N := 5) rfl ?_); (try (refine gate_guard (by rfl) ?_; dsimp only)); refine box_event ?hg (N := 5) ?hd (cs := #[.string a1_0, .int .i64 a1_1, .bool a1_2]) (t := 23) ?hr ?_; (case hd => rfl); (case hg => rfl); (case hr => first | (go_simp; done) | (go_simp; rfl)); intro gb195 hg w6 hbox hb; have n0_ := Aside0.mk (below_step (by repeat (first | (with_reducible first | exact HB.out | apply below_alloc | apply pw_below_drewN | apply below_drew1) | exact HB.out)) hb); have n1_ := Aside0.mk (hbox); have n2_ := Aside0.mk ((by rw [hg]; exact (below_size (by repeat (first | (with_reducible first | exact HB.out | apply below_alloc | apply pw_below_drewN | apply below_drew1) | exact HB.out))) : w.heap.size ≤ gb195)); have n3_ := Aside0.mk ((by rw [hg]; exact (below_size (by repeat (first | (with_reducible first | exact HB.out | apply below_alloc | apply pw_below_drewN | apply below_drew1) | exact HB.out))) : w.heap.size ≤ gb195)); clear HB; have HB := n0_; have BK195 := n1_; have GW195 := n2_; have GE195 := n3_; clear n0_ n1_ n2_ n3_; clear hb hbox hg))
  (try simp only [Act.put, List.setIfInBounds_toArray, List.set_cons_zero, List.set_cons_succ])
  go_cut [30] (fun v30 wc => ∃ (kq : Nat) (x30_4 : Bool), v30 = .bool x30_4 ∧ Aside0 (numeralref24_Lay.j0 kq a0 a2 a3 x30_4 a1_0 a1_1 a1_2 = some (r1, r2)) ∧ Aside0 (kq ≤ k) ∧ Aside0 (wc.heap[gb195]? = some (.cells #[.string a1_0, .int .i64 a1_1, .bool a1_2] 23 (0, 0))) ∧ Aside0 (Below w.heap.size w wc))
  case first =>
    have H := HC5.out
    clear HC5
    replace H := Option.bind_eq_some_iff.mp H
    obtain ⟨t196, A70, H⟩ := H
    replace H : (if t196 = 0 then (if a1_2 = true then (numeralref24_Lay.j0 k a0 a2 a3 true a1_0 a1_1 a1_2) else (if a1_1 < (-1200) then (numeralref24_Lay.j0 k a0 a2 a3 true a1_0 a1_1 a1_2) else (numeralref24_Lay.j0 k a0 a2 a3 (decide (a1_1 > 400)) a1_0 a1_1 a1_2))) else (numeralref24_Lay.j0 k a0 a2 a3 true a1_0 a1_1 a1_2)) = some (r1, r2) := H
    have A7 := Aside0.mk A70
    clear A70
    by_cases c8 : t196 = 0
    · rw [if_pos c8] at H
      have c8b0 : (t196 == 0) = true := beq_iff_eq.mpr c8
      have c8b1 : (t196 != 0) = false := bne_eq_false_iff_eq.mpr c8
      clear c8
      (first | rw [c8b0] | (simp only [i64_w, i32_w]; rw [c8b0]) | skip)
      by_cases c9 : a1_2 = true
      · subst c9
        have H1 : (numeralref24_Lay.j0 k a0 a2 a3 true a1_0 a1_1 true) = some (r1, r2) := by rw [if_pos rfl] at H; exact H
        clear H
        have H := H1
        clear H1
        have H' := Aside0.mk H
        clear H
        have hcz10_0 : w6.cell? ⟨gb195, 0, none⟩ = some (.string a1_0) := (blk_cell BK195.out 0).trans rfl
        have hcz10_1 : w6.cell? ⟨gb195, 1, none⟩ = some (.int .i64 a1_1) := (blk_cell BK195.out 1).trans rfl
        have hcz10_2 : w6.cell? ⟨gb195, 2, none⟩ = some (.bool true) := (blk_cell BK195.out 2).trans rfl
        have hfz10_0 := blk_frozen BK195.out 0
        have hfz10_1 := blk_frozen BK195.out 1
        have hfz10_2 := blk_frozen BK195.out 2
        go_wp2_with (first | ((with_reducible refine gate_callee (f := 14) rfl ?_); refine goesL_ (some 15) rfl rfl Tryd.func14 (by kernel_rfl) rfl #[.agg #[.string a1_0, .int .i64 a1_1, .bool true]] rfl (by (try simp only [List.map_toArray, List.map_cons, List.map_nil]); first | done | rfl | (simp only [List.length_drop, List.length_take]; rfl)) ?_; (with_reducible refine (numeralref03_Valid.calls k a1_0 a1_1 true t196 _ A7.out).mono ?_); rintro e w11 ⟨rfl, hb⟩; refine ⟨_, rfl, ?_⟩; have n0_ := Aside0.mk (blk_below (g := gb195) (o := .cells #[.string a1_0, .int .i64 a1_1, .bool true] 23 (0, 0)) (by (with_reducible repeat (first | refine blk_drewN ?_ _ | refine blk_drew ?_ | refine blk_alloc ?_ _)); exact BK195.out) hb); have n1_ := Aside0.mk (below_step (by repeat (first | (with_reducible first | exact HB.out | apply below_alloc | apply pw_below_drewN | apply below_drew1 | refine below_set ?_ GE195.out) | exact HB.out)) hb); clear BK195; clear HB; have BK195 := n0_; have HB := n1_; clear n0_ n1_; (try clear hb); (try clear hb2); (try clear hk); (try clear hi); have hcz12_0 : w11.cell? ⟨gb195, 0, none⟩ = some (.string a1_0) := (blk_cell BK195.out 0).trans rfl; have hcz12_1 : w11.cell? ⟨gb195, 1, none⟩ = some (.int .i64 a1_1) := (blk_cell BK195.out 1).trans rfl; have hcz12_2 : w11.cell? ⟨gb195, 2, none⟩ = some (.bool true) := (blk_cell BK195.out 2).trans rfl; have hfz12_0 := blk_frozen BK195.out 0; have hfz12_1 := blk_frozen BK195.out 1; have hfz12_2 := blk_frozen BK195.out 2))
        go_meet
        case rel => exact ⟨_, (true), (by first | rfl | (simp; done) | (simp [*]; done)), H', ⟨by first | omega | exact Nat.le_refl _⟩, ⟨by (with_reducible repeat (first | refine blk_drewN ?_ _ | refine blk_drew ?_ | refine blk_alloc ?_ _)); exact BK195.out⟩, ⟨by repeat (first | (with_reducible first | exact HB.out | apply below_alloc | apply pw_below_drewN | apply below_drew1 | refine below_set ?_ GE195.out) | exact HB.out)⟩⟩
      · replace c9 := Bool.eq_false_iff.mpr c9
        subst c9
        have H1 : (if a1_1 < (-1200) then (numeralref24_Lay.j0 k a0 a2 a3 true a1_0 a1_1 false) else (numeralref24_Lay.j0 k a0 a2 a3 (decide (a1_1 > 400)) a1_0 a1_1 false)) = some (r1, r2) := by rw [if_neg (show ¬ (false = true) by decide)] at H; exact H
        clear H
        have H := H1
        clear H1
        by_cases c13 : a1_1 < (-1200)
        · rw [if_pos c13] at H
          have c13b0 : decide (a1_1 < (-1200)) = true := decide_eq_true c13
          clear c13
          have H' := Aside0.mk H
          clear H
          have hcz14_0 : w6.cell? ⟨gb195, 0, none⟩ = some (.string a1_0) := (blk_cell BK195.out 0).trans rfl
          have hcz14_1 : w6.cell? ⟨gb195, 1, none⟩ = some (.int .i64 a1_1) := (blk_cell BK195.out 1).trans rfl
          have hcz14_2 : w6.cell? ⟨gb195, 2, none⟩ = some (.bool false) := (blk_cell BK195.out 2).trans rfl
          have hfz14_0 := blk_frozen BK195.out 0
          have hfz14_1 := blk_frozen BK195.out 1
          have hfz14_2 := blk_frozen BK195.out 2
          go_wp2_with (first | ((with_reducible refine gate_callee (f := 14) rfl ?_); refine goesL_ (some 15) rfl rfl Tryd.func14 (by kernel_rfl) rfl #[.agg #[.string a1_0, .int .i64 a1_1, .bool false]] rfl (by (try simp only [List.map_toArray, List.map_cons, List.map_nil]); first | done | rfl | (simp only [List.length_drop, List.length_take]; rfl)) ?_; (with_reducible refine (numeralref03_Valid.calls k a1_0 a1_1 false t196 _ A7.out).mono ?_); rintro e w15 ⟨rfl, hb⟩; refine ⟨_, rfl, ?_⟩; have n0_ := Aside0.mk (blk_below (g := gb195) (o := .cells #[.string a1_0, .int .i64 a1_1, .bool false] 23 (0, 0)) (by (with_reducible repeat (first | refine blk_drewN ?_ _ | refine blk_drew ?_ | refine blk_alloc ?_ _)); exact BK195.out) hb); have n1_ := Aside0.mk (below_step (by repeat (first | (with_reducible first | exact HB.out | apply below_alloc | apply pw_below_drewN | apply below_drew1 | refine below_set ?_ GE195.out) | exact HB.out)) hb); clear BK195; clear HB; have BK195 := n0_; have HB := n1_; clear n0_ n1_; (try clear hb); (try clear hb2); (try clear hk); (try clear hi); have hcz16_0 : w15.cell? ⟨gb195, 0, none⟩ = some (.string a1_0) := (blk_cell BK195.out 0).trans rfl; have hcz16_1 : w15.cell? ⟨gb195, 1, none⟩ = some (.int .i64 a1_1) := (blk_cell BK195.out 1).trans rfl; have hcz16_2 : w15.cell? ⟨gb195, 2, none⟩ = some (.bool false) := (blk_cell BK195.out 2).trans rfl; have hfz16_0 := blk_frozen BK195.out 0; have hfz16_1 := blk_frozen BK195.out 1; have hfz16_2 := blk_frozen BK195.out 2))
          go_meet
          case rel => exact ⟨_, (true), (by first | rfl | (simp; done) | (simp [*]; done)), H', ⟨by first | omega | exact Nat.le_refl _⟩, ⟨by (with_reducible repeat (first | refine blk_drewN ?_ _ | refine blk_drew ?_ | refine blk_alloc ?_ _)); exact BK195.out⟩, ⟨by repeat (first | (with_reducible first | exact HB.out | apply below_alloc | apply pw_below_drewN | apply below_drew1 | refine below_set ?_ GE195.out) | exact HB.out)⟩⟩
        · rw [if_neg c13] at H
          have c13b0 : decide (a1_1 < (-1200)) = false := decide_eq_false c13
          clear c13
          have H' := Aside0.mk H
          clear H
          have hcz17_0 : w6.cell? ⟨gb195, 0, none⟩ = some (.string a1_0) := (blk_cell BK195.out 0).trans rfl
          have hcz17_1 : w6.cell? ⟨gb195, 1, none⟩ = some (.int .i64 a1_1) := (blk_cell BK195.out 1).trans rfl
          have hcz17_2 : w6.cell? ⟨gb195, 2, none⟩ = some (.bool false) := (blk_cell BK195.out 2).trans rfl
          have hfz17_0 := blk_frozen BK195.out 0
          have hfz17_1 := blk_frozen BK195.out 1
          have hfz17_2 := blk_frozen BK195.out 2
          go_wp2_with (first | ((with_reducible refine gate_callee (f := 14) rfl ?_); refine goesL_ (some 15) rfl rfl Tryd.func14 (by kernel_rfl) rfl #[.agg #[.string a1_0, .int .i64 a1_1, .bool false]] rfl (by (try simp only [List.map_toArray, List.map_cons, List.map_nil]); first | done | rfl | (simp only [List.length_drop, List.length_take]; rfl)) ?_; (with_reducible refine (numeralref03_Valid.calls k a1_0 a1_1 false t196 _ A7.out).mono ?_); rintro e w18 ⟨rfl, hb⟩; refine ⟨_, rfl, ?_⟩; have n0_ := Aside0.mk (blk_below (g := gb195) (o := .cells #[.string a1_0, .int .i64 a1_1, .bool false] 23 (0, 0)) (by (with_reducible repeat (first | refine blk_drewN ?_ _ | refine blk_drew ?_ | refine blk_alloc ?_ _)); exact BK195.out) hb); have n1_ := Aside0.mk (below_step (by repeat (first | (with_reducible first | exact HB.out | apply below_alloc | apply pw_below_drewN | apply below_drew1 | refine below_set ?_ GE195.out) | exact HB.out)) hb); clear BK195; clear HB; have BK195 := n0_; have HB := n1_; clear n0_ n1_; (try clear hb); (try clear hb2); (try clear hk); (try clear hi); have hcz19_0 : w18.cell? ⟨gb195, 0, none⟩ = some (.string a1_0) := (blk_cell BK195.out 0).trans rfl; have hcz19_1 : w18.cell? ⟨gb195, 1, none⟩ = some (.int .i64 a1_1) := (blk_cell BK195.out 1).trans rfl; have hcz19_2 : w18.cell? ⟨gb195, 2, none⟩ = some (.bool false) := (blk_cell BK195.out 2).trans rfl; have hfz19_0 := blk_frozen BK195.out 0; have hfz19_1 := blk_frozen BK195.out 1; have hfz19_2 := blk_frozen BK195.out 2))
          go_meet
          case rel => exact ⟨_, (decide (a1_1 > 400)), (by first | rfl | (simp; done) | (simp [*]; done)), H', ⟨by first | omega | exact Nat.le_refl _⟩, ⟨by (with_reducible repeat (first | refine blk_drewN ?_ _ | refine blk_drew ?_ | refine blk_alloc ?_ _)); exact BK195.out⟩, ⟨by repeat (first | (with_reducible first | exact HB.out | apply below_alloc | apply pw_below_drewN | apply below_drew1 | refine below_set ?_ GE195.out) | exact HB.out)⟩⟩
    · rw [if_neg c8] at H
      have c8b0 : (t196 == 0) = false := beq_eq_false_iff_ne.mpr c8
      have c8b1 : (t196 != 0) = true := bne_iff_ne.mpr c8
      (first | rw [c8b0] | (simp only [i64_w, i32_w]; rw [c8b0]) | skip)
      have H' := Aside0.mk H
      clear H
      have hcz20_0 : w6.cell? ⟨gb195, 0, none⟩ = some (.string a1_0) := (blk_cell BK195.out 0).trans rfl
      have hcz20_1 : w6.cell? ⟨gb195, 1, none⟩ = some (.int .i64 a1_1) := (blk_cell BK195.out 1).trans rfl
      have hcz20_2 : w6.cell? ⟨gb195, 2, none⟩ = some (.bool a1_2) := (blk_cell BK195.out 2).trans rfl
      have hfz20_0 := blk_frozen BK195.out 0
      have hfz20_1 := blk_frozen BK195.out 1
      have hfz20_2 := blk_frozen BK195.out 2
      go_wp2_with (first | ((with_reducible refine gate_callee (f := 14) rfl ?_); refine goesL_ (some 15) rfl rfl Tryd.func14 (by kernel_rfl) rfl #[.agg #[.string a1_0, .int .i64 a1_1, .bool a1_2]] rfl (by (try simp only [List.map_toArray, List.map_cons, List.map_nil]); first | done | rfl | (simp only [List.length_drop, List.length_take]; rfl)) ?_; (with_reducible refine (numeralref03_Valid.calls k a1_0 a1_1 a1_2 t196 _ A7.out).mono ?_); rintro e w21 ⟨rfl, hb⟩; refine ⟨_, rfl, ?_⟩; have n0_ := Aside0.mk (blk_below (g := gb195) (o := .cells #[.string a1_0, .int .i64 a1_1, .bool a1_2] 23 (0, 0)) (by (with_reducible repeat (first | refine blk_drewN ?_ _ | refine blk_drew ?_ | refine blk_alloc ?_ _)); exact BK195.out) hb); have n1_ := Aside0.mk (below_step (by repeat (first | (with_reducible first | exact HB.out | apply below_alloc | apply pw_below_drewN | apply below_drew1 | refine below_set ?_ GE195.out) | exact HB.out)) hb); clear BK195; clear HB; have BK195 := n0_; have HB := n1_; clear n0_ n1_; (try clear hb); (try clear hb2); (try clear hk); (try clear hi)))
      go_meet
      case rel => exact ⟨_, (true), (by first | rfl | (simp; done) | (simp [*]; done)), H', ⟨by first | omega | exact Nat.le_refl _⟩, ⟨by (with_reducible repeat (first | refine blk_drewN ?_ _ | refine blk_drew ?_ | refine blk_alloc ?_ _)); exact BK195.out⟩, ⟨by repeat (first | (with_reducible first | exact HB.out | apply below_alloc | apply pw_below_drewN | apply below_drew1 | refine below_set ?_ GE195.out) | exact HB.out)⟩⟩
  case rest =>
    clear HC5
    try clear c1
    try clear p2
    try clear c7
    try clear c8
    try clear c8b0
    try clear c8b1
    try clear c9
    try clear c13
    try clear c13b0
    try clear c14
    try clear hcz10_0
    try clear hcz10_1
    try clear hcz10_2
    try clear hcz12_0
    try clear hcz12_1
    try clear hcz12_2
    try clear hcz14_0
    try clear hcz14_1
    try clear hcz14_2
    try clear hcz16_0
    try clear hcz16_1
    try clear hcz16_2
    try clear hcz17_0
    try clear hcz17_1
    try clear hcz17_2
    try clear hcz19_0
    try clear hcz19_1
    try clear hcz19_2
    try clear hcz20_0
    try clear hcz20_1
    try clear hcz20_2
    try clear hfz10_0
    try clear hfz10_1
    try clear hfz10_2
    try clear hfz12_0
    try clear hfz12_1
    try clear hfz12_2
    try clear hfz14_0
    try clear hfz14_1
    try clear hfz14_2
    try clear hfz16_0
    try clear hfz16_1
    try clear hfz16_2
    try clear hfz17_0
    try clear hfz17_1
    try clear hfz17_2
    try clear hfz19_0
    try clear hfz19_1
    try clear hfz19_2
    try clear hfz20_0
    try clear hfz20_1
    try clear hfz20_2
    obtain ⟨kq, x30_4, rfl, HA, HJ4, BK195, HB⟩ := hcut
    cases kq with
    | zero => exact absurd HA.out (by simp [numeralref24_Lay.j0])
    | succ kj4 =>
      have H := HA.out
      clear HA
      simp only [numeralref24_Lay.j0] at H
      by_cases c22 : x30_4 = true
      · subst c22
        have H1 : (some ((⟨#[]⟩ : ByteArray), 1)) = some (r1, r2) := by rw [if_pos rfl] at H; exact H
        clear H
        have H := H1
        clear H1
        simp only [Option.some.injEq, Prod.mk.injEq] at H
        obtain ⟨rfl, rfl⟩ := H
        go_wp2
        go_ret2
        exact ⟨by first | rfl | (simp [errW_none, errW_some] <;> rfl) | (simp [*, errW_none, errW_some] <;> rfl), by repeat (first | (with_reducible first | exact HB.out | apply below_alloc | apply pw_below_drewN | apply below_drew1 | refine below_set ?_ GE195.out) | exact HB.out)⟩
      · replace c22 := Bool.eq_false_iff.mpr c22
        subst c22
        have H1 : ((numeralref24_Asks.f kj4 a2 a3).bind fun bt197 => (if bt197.2.2 = 0 then (if a3 ≥ 0 then (if bt197.2.1 = true then (numeralref24_Lay.j1 kj4 a0 a2 a3 (decide ((wrap64 ((a1_0.size : Int) - a1_1)) > bt197.1)) a1_0 a1_1 a1_2) else (if (a1_0.size : Int) > bt197.1 then (numeralref24_Lay.j1 kj4 a0 a2 a3 true a1_0 a1_1 a1_2) else (numeralref24_Lay.j1 kj4 a0 a2 a3 false a1_0 a1_1 a1_2))) else (numeralref24_Lay.j1 kj4 a0 a2 a3 false a1_0 a1_1 a1_2)) else (some ((⟨#[]⟩ : ByteArray), bt197.2.2)))) = some (r1, r2) := by rw [if_neg (show ¬ (false = true) by decide)] at H; exact H
        clear H
        have H := H1
        clear H1
        replace H := Option.bind_eq_some_iff.mp H
        obtain ⟨⟨t197, t198, t199⟩, A230, H⟩ := H
        replace H : (if t199 = 0 then (if a3 ≥ 0 then (if t198 = true then (numeralref24_Lay.j1 kj4 a0 a2 a3 (decide ((wrap64 ((a1_0.size : Int) - a1_1)) > t197)) a1_0 a1_1 a1_2) else (if (a1_0.size : Int) > t197 then (numeralref24_Lay.j1 kj4 a0 a2 a3 true a1_0 a1_1 a1_2) else (numeralref24_Lay.j1 kj4 a0 a2 a3 false a1_0 a1_1 a1_2))) else (numeralref24_Lay.j1 kj4 a0 a2 a3 false a1_0 a1_1 a1_2)) else (some ((⟨#[]⟩ : ByteArray), t199))) = some (r1, r2) := H
        have A23 := Aside0.mk A230
        clear A230
        by_cases c24 : t199 = 0
        · rw [if_pos c24] at H
          have c24b0 : (t199 == 0) = true := beq_iff_eq.mpr c24
          have c24b1 : (t199 != 0) = false := bne_eq_false_iff_eq.mpr c24
          clear c24
          have HC25 := Aside0.mk H
          clear H
          go_upto_region 6 with (first | ((with_reducible refine gate_callee (f := 9) rfl ?_); refine goesL_ (some 34) rfl rfl Tryd.func9 (by kernel_rfl) rfl #[.int .u8 a2, .int .i64 a3] rfl (by (try simp only [List.map_toArray, List.map_cons, List.map_nil]); first | done | rfl | (simp only [List.length_drop, List.length_take]; rfl)) ?_; (with_reducible refine (numeralref24_Asks.calls kj4 a2 a3 t197 t198 t199 _ A23.out).mono ?_); rintro e w26 ⟨rfl, hb⟩; refine ⟨_, rfl, ?_⟩; have n0_ := Aside0.mk (blk_below (g := gb195) (o := .cells #[.string a1_0, .int .i64 a1_1, .bool a1_2] 23 (0, 0)) (by (with_reducible repeat (first | refine blk_drewN ?_ _ | refine blk_drew ?_ | refine blk_alloc ?_ _)); exact BK195.out) hb); have n1_ := Aside0.mk (below_step (by repeat (first | (with_reducible first | exact HB.out | apply below_alloc | apply pw_below_drewN | apply below_drew1 | refine below_set ?_ GE195.out) | exact HB.out)) hb); clear BK195; clear HB; have BK195 := n0_; have HB := n1_; clear n0_ n1_; (try clear hb); (try clear hb2); (try clear hk); (try clear hi)))
          (try simp only [Act.put, List.setIfInBounds_toArray, List.set_cons_zero, List.set_cons_succ])
          go_cut [66] (fun v66 wc => ∃ (kq : Nat) (x66_24 : Bool), v66 = .bool x66_24 ∧ Aside0 (numeralref24_Lay.j1 kq a0 a2 a3 x66_24 a1_0 a1_1 a1_2 = some (r1, r2)) ∧ Aside0 (kq ≤ kj4) ∧ Aside0 (wc.heap[gb195]? = some (.cells #[.string a1_0, .int .i64 a1_1, .bool a1_2] 23 (0, 0))) ∧ Aside0 (Below w.heap.size w wc))
          case first =>
            have H := HC25.out
            clear HC25
            by_cases c27 : a3 ≥ 0
            · rw [if_pos c27] at H
              have c27b0 : decide (0 ≤ a3) = true := decide_eq_true c27
              clear c27
              (first | rw [c27b0] | (simp only [i64_w, i32_w]; rw [c27b0]) | skip)
              by_cases c28 : t198 = true
              · subst c28
                have H1 : (numeralref24_Lay.j1 kj4 a0 a2 a3 (decide ((wrap64 ((a1_0.size : Int) - a1_1)) > t197)) a1_0 a1_1 a1_2) = some (r1, r2) := by rw [if_pos rfl] at H; exact H
                clear H
                have H := H1
                clear H1
                have H' := Aside0.mk H
                clear H
                have hcz29_0 : w26.cell? ⟨gb195, 0, none⟩ = some (.string a1_0) := (blk_cell BK195.out 0).trans rfl
                have hcz29_1 : w26.cell? ⟨gb195, 1, none⟩ = some (.int .i64 a1_1) := (blk_cell BK195.out 1).trans rfl
                have hcz29_2 : w26.cell? ⟨gb195, 2, none⟩ = some (.bool a1_2) := (blk_cell BK195.out 2).trans rfl
                have hfz29_0 := blk_frozen BK195.out 0
                have hfz29_1 := blk_frozen BK195.out 1
                have hfz29_2 := blk_frozen BK195.out 2
                go_wp2
                go_meet
                case rel => exact ⟨_, (decide ((wrap64 ((a1_0.size : Int) - a1_1)) > t197)), (by first | rfl | (simp; done) | (simp [*]; done)), H', ⟨by have := HJ4.out; first | omega | exact Nat.le_refl _⟩, ⟨by (with_reducible repeat (first | refine blk_drewN ?_ _ | refine blk_drew ?_ | refine blk_alloc ?_ _)); exact BK195.out⟩, ⟨by repeat (first | (with_reducible first | exact HB.out | apply below_alloc | apply pw_below_drewN | apply below_drew1 | refine below_set ?_ GE195.out) | exact HB.out)⟩⟩
              · replace c28 := Bool.eq_false_iff.mpr c28
                subst c28
                have H1 : (if (a1_0.size : Int) > t197 then (numeralref24_Lay.j1 kj4 a0 a2 a3 true a1_0 a1_1 a1_2) else (numeralref24_Lay.j1 kj4 a0 a2 a3 false a1_0 a1_1 a1_2)) = some (r1, r2) := by rw [if_neg (show ¬ (false = true) by decide)] at H; exact H
                clear H
                have H := H1
                clear H1
                by_cases c30 : (a1_0.size : Int) > t197
                · rw [if_pos c30] at H
                  have c30b0 : decide (t197 < (a1_0.size : Int)) = true := decide_eq_true c30
                  clear c30
                  have H' := Aside0.mk H
                  clear H
                  have hcz31_0 : w26.cell? ⟨gb195, 0, none⟩ = some (.string a1_0) := (blk_cell BK195.out 0).trans rfl
                  have hcz31_1 : w26.cell? ⟨gb195, 1, none⟩ = some (.int .i64 a1_1) := (blk_cell BK195.out 1).trans rfl
                  have hcz31_2 : w26.cell? ⟨gb195, 2, none⟩ = some (.bool a1_2) := (blk_cell BK195.out 2).trans rfl
                  have hfz31_0 := blk_frozen BK195.out 0
                  have hfz31_1 := blk_frozen BK195.out 1
                  have hfz31_2 := blk_frozen BK195.out 2
                  go_wp2
                  go_meet
                  case rel => exact ⟨_, (true), (by first | rfl | (simp; done) | (simp [*]; done)), H', ⟨by have := HJ4.out; first | omega | exact Nat.le_refl _⟩, ⟨by (with_reducible repeat (first | refine blk_drewN ?_ _ | refine blk_drew ?_ | refine blk_alloc ?_ _)); exact BK195.out⟩, ⟨by repeat (first | (with_reducible first | exact HB.out | apply below_alloc | apply pw_below_drewN | apply below_drew1 | refine below_set ?_ GE195.out) | exact HB.out)⟩⟩
                · rw [if_neg c30] at H
                  have c30b0 : decide (t197 < (a1_0.size : Int)) = false := decide_eq_false c30
                  clear c30
                  have H' := Aside0.mk H
                  clear H
                  have hcz32_0 : w26.cell? ⟨gb195, 0, none⟩ = some (.string a1_0) := (blk_cell BK195.out 0).trans rfl
                  have hcz32_1 : w26.cell? ⟨gb195, 1, none⟩ = some (.int .i64 a1_1) := (blk_cell BK195.out 1).trans rfl
                  have hcz32_2 : w26.cell? ⟨gb195, 2, none⟩ = some (.bool a1_2) := (blk_cell BK195.out 2).trans rfl
                  have hfz32_0 := blk_frozen BK195.out 0
                  have hfz32_1 := blk_frozen BK195.out 1
                  have hfz32_2 := blk_frozen BK195.out 2
                  go_wp2
                  go_meet
                  case rel => exact ⟨_, (false), (by first | rfl | (simp; done) | (simp [*]; done)), H', ⟨by have := HJ4.out; first | omega | exact Nat.le_refl _⟩, ⟨by (with_reducible repeat (first | refine blk_drewN ?_ _ | refine blk_drew ?_ | refine blk_alloc ?_ _)); exact BK195.out⟩, ⟨by repeat (first | (with_reducible first | exact HB.out | apply below_alloc | apply pw_below_drewN | apply below_drew1 | refine below_set ?_ GE195.out) | exact HB.out)⟩⟩
            · rw [if_neg c27] at H
              have c27b0 : decide (0 ≤ a3) = false := decide_eq_false c27
              clear c27
              (first | rw [c27b0] | (simp only [i64_w, i32_w]; rw [c27b0]) | skip)
              have H' := Aside0.mk H
              clear H
              go_wp2
              go_meet
              case rel => exact ⟨_, (false), (by first | rfl | (simp; done) | (simp [*]; done)), H', ⟨by have := HJ4.out; first | omega | exact Nat.le_refl _⟩, ⟨by (with_reducible repeat (first | refine blk_drewN ?_ _ | refine blk_drew ?_ | refine blk_alloc ?_ _)); exact BK195.out⟩, ⟨by repeat (first | (with_reducible first | exact HB.out | apply below_alloc | apply pw_below_drewN | apply below_drew1 | refine below_set ?_ GE195.out) | exact HB.out)⟩⟩
          case rest =>
            clear HC25
            try clear c1
            try clear c2
            try clear p2
            try clear c3
            try clear p6
            try clear c7
            try clear c8
            try clear c8b0
            try clear c8b1
            try clear c9
            try clear c13
            try clear c13b0
            try clear c14
            try clear c22
            try clear c24
            try clear c24b0
            try clear c24b1
            try clear c27
            try clear c27b0
            try clear c28
            try clear c30
            try clear c30b0
            try clear hcz10_0
            try clear hcz10_1
            try clear hcz10_2
            try clear hcz12_0
            try clear hcz12_1
            try clear hcz12_2
            try clear hcz14_0
            try clear hcz14_1
            try clear hcz14_2
            try clear hcz16_0
            try clear hcz16_1
            try clear hcz16_2
            try clear hcz17_0
            try clear hcz17_1
            try clear hcz17_2
            try clear hcz19_0
            try clear hcz19_1
            try clear hcz19_2
            try clear hcz20_0
            try clear hcz20_1
            try clear hcz20_2
            try clear hcz29_0
            try clear hcz29_1
            try clear hcz29_2
            try clear hcz31_0
            try clear hcz31_1
            try clear hcz31_2
            try clear hcz32_0
            try clear hcz32_1
            try clear hcz32_2
            try clear hfz10_0
            try clear hfz10_1
            try clear hfz10_2
            try clear hfz12_0
            try clear hfz12_1
            try clear hfz12_2
            try clear hfz14_0
            try clear hfz14_1
            try clear hfz14_2
            try clear hfz16_0
            try clear hfz16_1
            try clear hfz16_2
            try clear hfz17_0
            try clear hfz17_1
            try clear hfz17_2
            try clear hfz19_0
            try clear hfz19_1
            try clear hfz19_2
            try clear hfz20_0
            try clear hfz20_1
            try clear hfz20_2
            try clear hfz29_0
            try clear hfz29_1
            try clear hfz29_2
            try clear hfz31_0
            try clear hfz31_1
            try clear hfz31_2
            try clear hfz32_0
            try clear hfz32_1
            try clear hfz32_2
            try clear p2
            obtain ⟨kq, x66_24, rfl, HA, HJ24, BK195, HB⟩ := hcut
            cases kq with
            | zero => exact absurd HA.out (by simp [numeralref24_Lay.j1])
            | succ kj24 =>
              have H := HA.out
              clear HA
              simp only [numeralref24_Lay.j1] at H
              by_cases c33 : x66_24 = true
              · subst c33
                have H1 : (some ((⟨#[]⟩ : ByteArray), 30)) = some (r1, r2) := by rw [if_pos rfl] at H; exact H
                clear H
                have H := H1
                clear H1
                simp only [Option.some.injEq, Prod.mk.injEq] at H
                obtain ⟨rfl, rfl⟩ := H
                go_wp2
                go_ret2
                exact ⟨by first | rfl | (simp [errW_none, errW_some] <;> rfl) | (simp [*, errW_none, errW_some] <;> rfl), by repeat (first | (with_reducible first | exact HB.out | apply below_alloc | apply pw_below_drewN | apply below_drew1 | refine below_set ?_ GE195.out) | exact HB.out)⟩
              · replace c33 := Bool.eq_false_iff.mpr c33
                subst c33
                have H1 : (if a2 = 101 then (numeralref24_Lay.j2 kj24 a0 a2 a3 a2 (a2 == 101) a1_0 a1_1 a1_2) else (numeralref24_Lay.j2 kj24 a0 a2 a3 a2 (a2 == 69) a1_0 a1_1 a1_2)) = some (r1, r2) := by rw [if_neg (show ¬ (false = true) by decide)] at H; exact H
                clear H
                have H := H1
                clear H1
                have HC34 := Aside0.mk H
                clear H
                go_upto_if 73 with (fail)
                go_cut [73] (fun v73 wc => ∃ (kq : Nat) (x73_33 : Bool), v73 = .bool x73_33 ∧ Aside0 (numeralref24_Lay.j2 kq a0 a2 a3 a2 x73_33 a1_0 a1_1 a1_2 = some (r1, r2)) ∧ Aside0 (kq ≤ kj24) ∧ Aside0 (wc.heap[gb195]? = some (.cells #[.string a1_0, .int .i64 a1_1, .bool a1_2] 23 (0, 0))) ∧ Aside0 (Below w.heap.size w wc))
                case first =>
                  have H := HC34.out
                  clear HC34
                  by_cases c35 : a2 = 101
                  · rw [if_pos c35] at H
                    have c35b0 : (a2 == 101) = true := beq_iff_eq.mpr c35
                    have c35b1 : (a2 != 101) = false := bne_eq_false_iff_eq.mpr c35
                    clear c35
                    (first | rw [c35b0] | (simp only [i64_w, i32_w]; rw [c35b0]) | skip)
                    have H' := Aside0.mk H
                    clear H
                    go_wp2
                    go_meet
                    case rel => exact ⟨_, ((a2 == 101)), (by first | rfl | (simp; done) | (simp [*]; done)), H', ⟨by have := HJ4.out; have := HJ24.out; first | omega | exact Nat.le_refl _⟩, ⟨by (with_reducible repeat (first | refine blk_drewN ?_ _ | refine blk_drew ?_ | refine blk_alloc ?_ _)); exact BK195.out⟩, ⟨by repeat (first | (with_reducible first | exact HB.out | apply below_alloc | apply pw_below_drewN | apply below_drew1 | refine below_set ?_ GE195.out) | exact HB.out)⟩⟩
                  · rw [if_neg c35] at H
                    have c35b0 : (a2 == 101) = false := beq_eq_false_iff_ne.mpr c35
                    have c35b1 : (a2 != 101) = true := bne_iff_ne.mpr c35
                    (first | rw [c35b0] | (simp only [i64_w, i32_w]; rw [c35b0]) | skip)
                    have H' := Aside0.mk H
                    clear H
                    go_wp2
                    go_meet
                    case rel => exact ⟨_, ((a2 == 69)), (by first | rfl | (simp; done) | (simp [*]; done)), H', ⟨by have := HJ4.out; have := HJ24.out; first | omega | exact Nat.le_refl _⟩, ⟨by (with_reducible repeat (first | refine blk_drewN ?_ _ | refine blk_drew ?_ | refine blk_alloc ?_ _)); exact BK195.out⟩, ⟨by repeat (first | (with_reducible first | exact HB.out | apply below_alloc | apply pw_below_drewN | apply below_drew1 | refine below_set ?_ GE195.out) | exact HB.out)⟩⟩
                case rest =>
                  clear HC34
                  try clear c1
                  try clear c2
                  try clear p2
                  try clear c3
                  try clear p6
                  try clear c7
                  try clear c8
                  try clear c8b0
                  try clear c8b1
                  try clear c9
                  try clear c13
                  try clear c13b0
                  try clear c14
                  try clear c22
                  try clear c24
                  try clear c24b0
                  try clear c24b1
                  try clear c27
                  try clear c27b0
                  try clear c28
                  try clear c30
                  try clear c30b0
                  try clear c33
                  try clear c35
                  try clear c35b0
                  try clear c35b1
                  try clear hcz10_0
                  try clear hcz10_1
                  try clear hcz10_2
                  try clear hcz12_0
                  try clear hcz12_1
                  try clear hcz12_2
                  try clear hcz14_0
                  try clear hcz14_1
                  try clear hcz14_2
                  try clear hcz16_0
                  try clear hcz16_1
                  try clear hcz16_2
                  try clear hcz17_0
                  try clear hcz17_1
                  try clear hcz17_2
                  try clear hcz19_0
                  try clear hcz19_1
                  try clear hcz19_2
                  try clear hcz20_0
                  try clear hcz20_1
                  try clear hcz20_2
                  try clear hcz29_0
                  try clear hcz29_1
                  try clear hcz29_2
                  try clear hcz31_0
                  try clear hcz31_1
                  try clear hcz31_2
                  try clear hcz32_0
                  try clear hcz32_1
                  try clear hcz32_2
                  try clear hfz10_0
                  try clear hfz10_1
                  try clear hfz10_2
                  try clear hfz12_0
                  try clear hfz12_1
                  try clear hfz12_2
                  try clear hfz14_0
                  try clear hfz14_1
                  try clear hfz14_2
                  try clear hfz16_0
                  try clear hfz16_1
                  try clear hfz16_2
                  try clear hfz17_0
                  try clear hfz17_1
                  try clear hfz17_2
                  try clear hfz19_0
                  try clear hfz19_1
                  try clear hfz19_2
                  try clear hfz20_0
                  try clear hfz20_1
                  try clear hfz20_2
                  try clear hfz29_0
                  try clear hfz29_1
                  try clear hfz29_2
                  try clear hfz31_0
                  try clear hfz31_1
                  try clear hfz31_2
                  try clear hfz32_0
                  try clear hfz32_1
                  try clear hfz32_2
                  try clear p2
                  try clear p6
                  obtain ⟨kq, x73_33, rfl, HA, HJ33, BK195, HB⟩ := hcut
                  cases kq with
                  | zero => exact absurd HA.out (by simp [numeralref24_Lay.j2])
                  | succ kj33 =>
                    have H := HA.out
                    clear HA
                    simp only [numeralref24_Lay.j2] at H
                    by_cases c36 : x73_33 = true
                    · subst c36
                      have H1 : ((numeralref24_sci.f kj33 a1_0 a1_1 a1_2 a3 (a2 == 69)).bind fun t200 => (if a0 = true then (if 1 + t200.size ≤ 9223372036854775807 then (some ((⟨#[45]⟩ : ByteArray) ++ t200, 0)) else (none)) else (some (t200, 0)))) = some (r1, r2) := by rw [if_pos rfl] at H; exact H
                      clear H
                      have H := H1
                      clear H1
                      replace H := Option.bind_eq_some_iff.mp H
                      obtain ⟨t200, A370, H⟩ := H
                      replace H : (if a0 = true then (if 1 + t200.size ≤ 9223372036854775807 then (some ((⟨#[45]⟩ : ByteArray) ++ t200, 0)) else (none)) else (some (t200, 0))) = some (r1, r2) := H
                      have A37 := Aside0.mk A370
                      clear A370
                      by_cases c38 : a0 = true
                      · subst c38
                        have H1 : (if 1 + t200.size ≤ 9223372036854775807 then (some ((⟨#[45]⟩ : ByteArray) ++ t200, 0)) else (none)) = some (r1, r2) := by rw [if_pos rfl] at H; exact H
                        clear H
                        have H := H1
                        clear H1
                        by_cases c39 : 1 + t200.size ≤ 9223372036854775807
                        · rw [if_pos c39] at H
                          have c39b0 := eq_true c39
                          have c39b1 : decide (1 + t200.size ≤ 9223372036854775807) = true := decide_eq_true c39
                          try have c39b2 : (9223372036854775807 < 1 + t200.size) = False := eq_false (Nat.not_lt.2 c39)
                          simp only [Option.some.injEq, Prod.mk.injEq] at H
                          obtain ⟨rfl, rfl⟩ := H
                          have hcz40_0 : wc.cell? ⟨gb195, 0, none⟩ = some (.string a1_0) := (blk_cell BK195.out 0).trans rfl
                          have hcz40_1 : wc.cell? ⟨gb195, 1, none⟩ = some (.int .i64 a1_1) := (blk_cell BK195.out 1).trans rfl
                          have hcz40_2 : wc.cell? ⟨gb195, 2, none⟩ = some (.bool a1_2) := (blk_cell BK195.out 2).trans rfl
                          have hfz40_0 := blk_frozen BK195.out 0
                          have hfz40_1 := blk_frozen BK195.out 1
                          have hfz40_2 := blk_frozen BK195.out 2
                          go_wp2_with (first | ((with_reducible refine gate_callee (f := 20) rfl ?_); refine goesL_ (some 80) rfl rfl Tryd.func20 (by kernel_rfl) rfl #[.agg #[.string a1_0, .int .i64 a1_1, .bool a1_2], .int .i64 a3, .bool (a2 == 69)] rfl (by (try simp only [List.map_toArray, List.map_cons, List.map_nil]); first | done | rfl | (simp only [List.length_drop, List.length_take]; rfl)) ?_; (with_reducible refine (numeralref24_sci.calls kj33 a1_0 a1_1 a1_2 a3 (a2 == 69) t200 _ A37.out).mono ?_); rintro e w41 ⟨rfl, hb⟩; refine ⟨_, rfl, ?_⟩; have n0_ := Aside0.mk (blk_below (g := gb195) (o := .cells #[.string a1_0, .int .i64 a1_1, .bool a1_2] 23 (0, 0)) (by (with_reducible repeat (first | refine blk_drewN ?_ _ | refine blk_drew ?_ | refine blk_alloc ?_ _)); exact BK195.out) hb); have n1_ := Aside0.mk (below_step (by repeat (first | (with_reducible first | exact HB.out | apply below_alloc | apply pw_below_drewN | apply below_drew1 | refine below_set ?_ GE195.out) | exact HB.out)) hb); clear BK195; clear HB; have BK195 := n0_; have HB := n1_; clear n0_ n1_; (try clear hb); (try clear hb2); (try clear hk); (try clear hi)))
                          go_ret2
                          exact ⟨by first | rfl | (simp [errW_none, errW_some] <;> rfl) | (simp [*, errW_none, errW_some] <;> rfl), by repeat (first | (with_reducible first | exact HB.out | apply below_alloc | apply pw_below_drewN | apply below_drew1 | refine below_set ?_ GE195.out) | exact HB.out)⟩
                        · rw [if_neg c39] at H
                          exact absurd H (by simp)
                      · replace c38 := Bool.eq_false_iff.mpr c38
                        subst c38
                        have H1 : (some (t200, 0)) = some (r1, r2) := by rw [if_neg (show ¬ (false = true) by decide)] at H; exact H
                        clear H
                        have H := H1
                        clear H1
                        simp only [Option.some.injEq, Prod.mk.injEq] at H
                        obtain ⟨rfl, rfl⟩ := H
                        have hcz42_0 : wc.cell? ⟨gb195, 0, none⟩ = some (.string a1_0) := (blk_cell BK195.out 0).trans rfl
                        have hcz42_1 : wc.cell? ⟨gb195, 1, none⟩ = some (.int .i64 a1_1) := (blk_cell BK195.out 1).trans rfl
                        have hcz42_2 : wc.cell? ⟨gb195, 2, none⟩ = some (.bool a1_2) := (blk_cell BK195.out 2).trans rfl
                        have hfz42_0 := blk_frozen BK195.out 0
                        have hfz42_1 := blk_frozen BK195.out 1
                        have hfz42_2 := blk_frozen BK195.out 2
                        go_wp2_with (first | ((with_reducible refine gate_callee (f := 20) rfl ?_); refine goesL_ (some 80) rfl rfl Tryd.func20 (by kernel_rfl) rfl #[.agg #[.string a1_0, .int .i64 a1_1, .bool a1_2], .int .i64 a3, .bool (a2 == 69)] rfl (by (try simp only [List.map_toArray, List.map_cons, List.map_nil]); first | done | rfl | (simp only [List.length_drop, List.length_take]; rfl)) ?_; (with_reducible refine (numeralref24_sci.calls kj33 a1_0 a1_1 a1_2 a3 (a2 == 69) t200 _ A37.out).mono ?_); rintro e w43 ⟨rfl, hb⟩; refine ⟨_, rfl, ?_⟩; have n0_ := Aside0.mk (blk_below (g := gb195) (o := .cells #[.string a1_0, .int .i64 a1_1, .bool a1_2] 23 (0, 0)) (by (with_reducible repeat (first | refine blk_drewN ?_ _ | refine blk_drew ?_ | refine blk_alloc ?_ _)); exact BK195.out) hb); have n1_ := Aside0.mk (below_step (by repeat (first | (with_reducible first | exact HB.out | apply below_alloc | apply pw_below_drewN | apply below_drew1 | refine below_set ?_ GE195.out) | exact HB.out)) hb); clear BK195; clear HB; have BK195 := n0_; have HB := n1_; clear n0_ n1_; (try clear hb); (try clear hb2); (try clear hk); (try clear hi)))
                        go_ret2
                        exact ⟨by first | rfl | (simp [errW_none, errW_some] <;> rfl) | (simp [*, errW_none, errW_some] <;> rfl), by repeat (first | (with_reducible first | exact HB.out | apply below_alloc | apply pw_below_drewN | apply below_drew1 | refine below_set ?_ GE195.out) | exact HB.out)⟩
                    · replace c36 := Bool.eq_false_iff.mpr c36
                      subst c36
                      have H1 : (if a2 = 102 then ((numeralref24_plain.f kj33 a1_0 a1_1 a1_2 a3).bind fun t201 => (if a0 = true then (if 1 + t201.size ≤ 9223372036854775807 then (some ((⟨#[45]⟩ : ByteArray) ++ t201, 0)) else (none)) else (some (t201, 0)))) else ((numeralref24_general.f kj33 a1_0 a1_1 a1_2 a3 (a2 == 71)).bind fun t202 => (if a0 = true then (if 1 + t202.size ≤ 9223372036854775807 then (some ((⟨#[45]⟩ : ByteArray) ++ t202, 0)) else (none)) else (some (t202, 0))))) = some (r1, r2) := by rw [if_neg (show ¬ (false = true) by decide)] at H; exact H
                      clear H
                      have H := H1
                      clear H1
                      by_cases c44 : a2 = 102
                      · rw [if_pos c44] at H
                        have c44b0 : (a2 == 102) = true := beq_iff_eq.mpr c44
                        have c44b1 : (a2 != 102) = false := bne_eq_false_iff_eq.mpr c44
                        clear c44
                        replace H := Option.bind_eq_some_iff.mp H
                        obtain ⟨t201, A450, H⟩ := H
                        replace H : (if a0 = true then (if 1 + t201.size ≤ 9223372036854775807 then (some ((⟨#[45]⟩ : ByteArray) ++ t201, 0)) else (none)) else (some (t201, 0))) = some (r1, r2) := H
                        have A45 := Aside0.mk A450
                        clear A450
                        by_cases c46 : a0 = true
                        · subst c46
                          have H1 : (if 1 + t201.size ≤ 9223372036854775807 then (some ((⟨#[45]⟩ : ByteArray) ++ t201, 0)) else (none)) = some (r1, r2) := by rw [if_pos rfl] at H; exact H
                          clear H
                          have H := H1
                          clear H1
                          by_cases c47 : 1 + t201.size ≤ 9223372036854775807
                          · rw [if_pos c47] at H
                            have c47b0 := eq_true c47
                            have c47b1 : decide (1 + t201.size ≤ 9223372036854775807) = true := decide_eq_true c47
                            try have c47b2 : (9223372036854775807 < 1 + t201.size) = False := eq_false (Nat.not_lt.2 c47)
                            simp only [Option.some.injEq, Prod.mk.injEq] at H
                            obtain ⟨rfl, rfl⟩ := H
                            have hcz48_0 : wc.cell? ⟨gb195, 0, none⟩ = some (.string a1_0) := (blk_cell BK195.out 0).trans rfl
                            have hcz48_1 : wc.cell? ⟨gb195, 1, none⟩ = some (.int .i64 a1_1) := (blk_cell BK195.out 1).trans rfl
                            have hcz48_2 : wc.cell? ⟨gb195, 2, none⟩ = some (.bool a1_2) := (blk_cell BK195.out 2).trans rfl
                            have hfz48_0 := blk_frozen BK195.out 0
                            have hfz48_1 := blk_frozen BK195.out 1
                            have hfz48_2 := blk_frozen BK195.out 2
                            go_wp2_with (first | ((with_reducible refine gate_callee (f := 21) rfl ?_); refine goesL_ (some 85) rfl rfl Tryd.func21 (by kernel_rfl) rfl #[.agg #[.string a1_0, .int .i64 a1_1, .bool a1_2], .int .i64 a3] rfl (by (try simp only [List.map_toArray, List.map_cons, List.map_nil]); first | done | rfl | (simp only [List.length_drop, List.length_take]; rfl)) ?_; (with_reducible refine (numeralref24_plain.calls kj33 a1_0 a1_1 a1_2 a3 t201 _ A45.out).mono ?_); rintro e w49 ⟨rfl, hb⟩; refine ⟨_, rfl, ?_⟩; have n0_ := Aside0.mk (blk_below (g := gb195) (o := .cells #[.string a1_0, .int .i64 a1_1, .bool a1_2] 23 (0, 0)) (by (with_reducible repeat (first | refine blk_drewN ?_ _ | refine blk_drew ?_ | refine blk_alloc ?_ _)); exact BK195.out) hb); have n1_ := Aside0.mk (below_step (by repeat (first | (with_reducible first | exact HB.out | apply below_alloc | apply pw_below_drewN | apply below_drew1 | refine below_set ?_ GE195.out) | exact HB.out)) hb); clear BK195; clear HB; have BK195 := n0_; have HB := n1_; clear n0_ n1_; (try clear hb); (try clear hb2); (try clear hk); (try clear hi)))
                            go_ret2
                            exact ⟨by first | rfl | (simp [errW_none, errW_some] <;> rfl) | (simp [*, errW_none, errW_some] <;> rfl), by repeat (first | (with_reducible first | exact HB.out | apply below_alloc | apply pw_below_drewN | apply below_drew1 | refine below_set ?_ GE195.out) | exact HB.out)⟩
                          · rw [if_neg c47] at H
                            exact absurd H (by simp)
                        · replace c46 := Bool.eq_false_iff.mpr c46
                          subst c46
                          have H1 : (some (t201, 0)) = some (r1, r2) := by rw [if_neg (show ¬ (false = true) by decide)] at H; exact H
                          clear H
                          have H := H1
                          clear H1
                          simp only [Option.some.injEq, Prod.mk.injEq] at H
                          obtain ⟨rfl, rfl⟩ := H
                          have hcz50_0 : wc.cell? ⟨gb195, 0, none⟩ = some (.string a1_0) := (blk_cell BK195.out 0).trans rfl
                          have hcz50_1 : wc.cell? ⟨gb195, 1, none⟩ = some (.int .i64 a1_1) := (blk_cell BK195.out 1).trans rfl
                          have hcz50_2 : wc.cell? ⟨gb195, 2, none⟩ = some (.bool a1_2) := (blk_cell BK195.out 2).trans rfl
                          have hfz50_0 := blk_frozen BK195.out 0
                          have hfz50_1 := blk_frozen BK195.out 1
                          have hfz50_2 := blk_frozen BK195.out 2
                          go_wp2_with (first | ((with_reducible refine gate_callee (f := 21) rfl ?_); refine goesL_ (some 85) rfl rfl Tryd.func21 (by kernel_rfl) rfl #[.agg #[.string a1_0, .int .i64 a1_1, .bool a1_2], .int .i64 a3] rfl (by (try simp only [List.map_toArray, List.map_cons, List.map_nil]); first | done | rfl | (simp only [List.length_drop, List.length_take]; rfl)) ?_; (with_reducible refine (numeralref24_plain.calls kj33 a1_0 a1_1 a1_2 a3 t201 _ A45.out).mono ?_); rintro e w51 ⟨rfl, hb⟩; refine ⟨_, rfl, ?_⟩; have n0_ := Aside0.mk (blk_below (g := gb195) (o := .cells #[.string a1_0, .int .i64 a1_1, .bool a1_2] 23 (0, 0)) (by (with_reducible repeat (first | refine blk_drewN ?_ _ | refine blk_drew ?_ | refine blk_alloc ?_ _)); exact BK195.out) hb); have n1_ := Aside0.mk (below_step (by repeat (first | (with_reducible first | exact HB.out | apply below_alloc | apply pw_below_drewN | apply below_drew1 | refine below_set ?_ GE195.out) | exact HB.out)) hb); clear BK195; clear HB; have BK195 := n0_; have HB := n1_; clear n0_ n1_; (try clear hb); (try clear hb2); (try clear hk); (try clear hi)))
                          go_ret2
                          exact ⟨by first | rfl | (simp [errW_none, errW_some] <;> rfl) | (simp [*, errW_none, errW_some] <;> rfl), by repeat (first | (with_reducible first | exact HB.out | apply below_alloc | apply pw_below_drewN | apply below_drew1 | refine below_set ?_ GE195.out) | exact HB.out)⟩
                      · rw [if_neg c44] at H
                        have c44b0 : (a2 == 102) = false := beq_eq_false_iff_ne.mpr c44
                        have c44b1 : (a2 != 102) = true := bne_iff_ne.mpr c44
                        replace H := Option.bind_eq_some_iff.mp H
                        obtain ⟨t202, A520, H⟩ := H
                        replace H : (if a0 = true then (if 1 + t202.size ≤ 9223372036854775807 then (some ((⟨#[45]⟩ : ByteArray) ++ t202, 0)) else (none)) else (some (t202, 0))) = some (r1, r2) := H
                        have A52 := Aside0.mk A520
                        clear A520
                        by_cases c53 : a0 = true
                        · subst c53
                          have H1 : (if 1 + t202.size ≤ 9223372036854775807 then (some ((⟨#[45]⟩ : ByteArray) ++ t202, 0)) else (none)) = some (r1, r2) := by rw [if_pos rfl] at H; exact H
                          clear H
                          have H := H1
                          clear H1
                          by_cases c54 : 1 + t202.size ≤ 9223372036854775807
                          · rw [if_pos c54] at H
                            have c54b0 := eq_true c54
                            have c54b1 : decide (1 + t202.size ≤ 9223372036854775807) = true := decide_eq_true c54
                            try have c54b2 : (9223372036854775807 < 1 + t202.size) = False := eq_false (Nat.not_lt.2 c54)
                            simp only [Option.some.injEq, Prod.mk.injEq] at H
                            obtain ⟨rfl, rfl⟩ := H
                            have hcz55_0 : wc.cell? ⟨gb195, 0, none⟩ = some (.string a1_0) := (blk_cell BK195.out 0).trans rfl
                            have hcz55_1 : wc.cell? ⟨gb195, 1, none⟩ = some (.int .i64 a1_1) := (blk_cell BK195.out 1).trans rfl
                            have hcz55_2 : wc.cell? ⟨gb195, 2, none⟩ = some (.bool a1_2) := (blk_cell BK195.out 2).trans rfl
                            have hfz55_0 := blk_frozen BK195.out 0
                            have hfz55_1 := blk_frozen BK195.out 1
                            have hfz55_2 := blk_frozen BK195.out 2
                            go_wp2_with (first | ((with_reducible refine gate_callee (f := 22) rfl ?_); refine goesL_ (some 72) rfl rfl Tryd.func22 (by kernel_rfl) rfl #[.agg #[.string a1_0, .int .i64 a1_1, .bool a1_2], .int .i64 a3, .bool (a2 == 71)] rfl (by (try simp only [List.map_toArray, List.map_cons, List.map_nil]); first | done | rfl | (simp only [List.length_drop, List.length_take]; rfl)) ?_; (with_reducible refine (numeralref24_general.calls kj33 a1_0 a1_1 a1_2 a3 (a2 == 71) t202 _ A52.out).mono ?_); rintro e w56 ⟨rfl, hb⟩; refine ⟨_, rfl, ?_⟩; have n0_ := Aside0.mk (blk_below (g := gb195) (o := .cells #[.string a1_0, .int .i64 a1_1, .bool a1_2] 23 (0, 0)) (by (with_reducible repeat (first | refine blk_drewN ?_ _ | refine blk_drew ?_ | refine blk_alloc ?_ _)); exact BK195.out) hb); have n1_ := Aside0.mk (below_step (by repeat (first | (with_reducible first | exact HB.out | apply below_alloc | apply pw_below_drewN | apply below_drew1 | refine below_set ?_ GE195.out) | exact HB.out)) hb); clear BK195; clear HB; have BK195 := n0_; have HB := n1_; clear n0_ n1_; (try clear hb); (try clear hb2); (try clear hk); (try clear hi)))
                            go_ret2
                            exact ⟨by first | rfl | (simp [errW_none, errW_some] <;> rfl) | (simp [*, errW_none, errW_some] <;> rfl), by repeat (first | (with_reducible first | exact HB.out | apply below_alloc | apply pw_below_drewN | apply below_drew1 | refine below_set ?_ GE195.out) | exact HB.out)⟩
                          · rw [if_neg c54] at H
                            exact absurd H (by simp)
                        · replace c53 := Bool.eq_false_iff.mpr c53
                          subst c53
                          have H1 : (some (t202, 0)) = some (r1, r2) := by rw [if_neg (show ¬ (false = true) by decide)] at H; exact H
                          clear H
                          have H := H1
                          clear H1
                          simp only [Option.some.injEq, Prod.mk.injEq] at H
                          obtain ⟨rfl, rfl⟩ := H
                          have hcz57_0 : wc.cell? ⟨gb195, 0, none⟩ = some (.string a1_0) := (blk_cell BK195.out 0).trans rfl
                          have hcz57_1 : wc.cell? ⟨gb195, 1, none⟩ = some (.int .i64 a1_1) := (blk_cell BK195.out 1).trans rfl
                          have hcz57_2 : wc.cell? ⟨gb195, 2, none⟩ = some (.bool a1_2) := (blk_cell BK195.out 2).trans rfl
                          have hfz57_0 := blk_frozen BK195.out 0
                          have hfz57_1 := blk_frozen BK195.out 1
                          have hfz57_2 := blk_frozen BK195.out 2
                          go_wp2_with (first | ((with_reducible refine gate_callee (f := 22) rfl ?_); refine goesL_ (some 72) rfl rfl Tryd.func22 (by kernel_rfl) rfl #[.agg #[.string a1_0, .int .i64 a1_1, .bool a1_2], .int .i64 a3, .bool (a2 == 71)] rfl (by (try simp only [List.map_toArray, List.map_cons, List.map_nil]); first | done | rfl | (simp only [List.length_drop, List.length_take]; rfl)) ?_; (with_reducible refine (numeralref24_general.calls kj33 a1_0 a1_1 a1_2 a3 (a2 == 71) t202 _ A52.out).mono ?_); rintro e w58 ⟨rfl, hb⟩; refine ⟨_, rfl, ?_⟩; have n0_ := Aside0.mk (blk_below (g := gb195) (o := .cells #[.string a1_0, .int .i64 a1_1, .bool a1_2] 23 (0, 0)) (by (with_reducible repeat (first | refine blk_drewN ?_ _ | refine blk_drew ?_ | refine blk_alloc ?_ _)); exact BK195.out) hb); have n1_ := Aside0.mk (below_step (by repeat (first | (with_reducible first | exact HB.out | apply below_alloc | apply pw_below_drewN | apply below_drew1 | refine below_set ?_ GE195.out) | exact HB.out)) hb); clear BK195; clear HB; have BK195 := n0_; have HB := n1_; clear n0_ n1_; (try clear hb); (try clear hb2); (try clear hk); (try clear hi)))
                          go_ret2
                          exact ⟨by first | rfl | (simp [errW_none, errW_some] <;> rfl) | (simp [*, errW_none, errW_some] <;> rfl), by repeat (first | (with_reducible first | exact HB.out | apply below_alloc | apply pw_below_drewN | apply below_drew1 | refine below_set ?_ GE195.out) | exact HB.out)⟩
        · rw [if_neg c24] at H
          have c24b0 : (t199 == 0) = false := beq_eq_false_iff_ne.mpr c24
          have c24b1 : (t199 != 0) = true := bne_iff_ne.mpr c24
          simp only [Option.some.injEq, Prod.mk.injEq] at H
          obtain ⟨rfl, rfl⟩ := H
          go_wp2_with (first | ((with_reducible refine gate_callee (f := 9) rfl ?_); refine goesL_ (some 34) rfl rfl Tryd.func9 (by kernel_rfl) rfl #[.int .u8 a2, .int .i64 a3] rfl (by (try simp only [List.map_toArray, List.map_cons, List.map_nil]); first | done | rfl | (simp only [List.length_drop, List.length_take]; rfl)) ?_; (with_reducible refine (numeralref24_Asks.calls kj4 a2 a3 t197 t198 t199 _ A23.out).mono ?_); rintro e w59 ⟨rfl, hb⟩; refine ⟨_, rfl, ?_⟩; have n0_ := Aside0.mk (blk_below (g := gb195) (o := .cells #[.string a1_0, .int .i64 a1_1, .bool a1_2] 23 (0, 0)) (by (with_reducible repeat (first | refine blk_drewN ?_ _ | refine blk_drew ?_ | refine blk_alloc ?_ _)); exact BK195.out) hb); have n1_ := Aside0.mk (below_step (by repeat (first | (with_reducible first | exact HB.out | apply below_alloc | apply pw_below_drewN | apply below_drew1 | refine below_set ?_ GE195.out) | exact HB.out)) hb); clear BK195; clear HB; have BK195 := n0_; have HB := n1_; clear n0_ n1_; (try clear hb); (try clear hb2); (try clear hk); (try clear hi)))
          go_ret2
          exact ⟨by first | rfl | (simp [errW_none, errW_some] <;> rfl) | (simp [*, errW_none, errW_some] <;> rfl), by repeat (first | (with_reducible first | exact HB.out | apply below_alloc | apply pw_below_drewN | apply below_drew1 | refine below_set ?_ GE195.out) | exact HB.out)⟩

/-! ### numerallaw24_num: function 10 -/
def numerallaw24_num.f (a0 : Option Int) : Option (Int) := if a0.isNone = true then (some 0) else (some (a0.getD 0))
set_option maxHeartbeats 8000000 in
set_option maxRecDepth 100000 in
theorem numerallaw24_num.calls (a0 : Option Int) (r : Int) (w : World) (h : numerallaw24_num.f a0 = some r) :
    Calls Tryd.prog 10 #[errW a0] w fun e w' => e = .returned (.int .i64 r) ∧ Drawn0 w w' := by
  have hu27 := Tryd.underlying27
  have hu48 := Tryd.underlying48
  have hta : ∀ (v : Value) (W : World), (Instr.typeAssert (.iface 48 v) 27 48 true).run Tryd.prog W = .ok (.tuple #[v, .bool true]) W := fun v W => by rfl
  have H : (if a0.isNone = true then (some 0) else (some (a0.getD 0))) = some r := h
  clear h
  rcases a0 with _ | q203
  · have H1 : (some 0) = some r := by rw [if_pos (show (none : Option Int).isNone = true by rfl)] at H; exact H
    clear H
    have H := H1
    clear H1
    simp only [errW_none, errW_some]
    obtain rfl := Option.some.inj H
    go_enter Tryd.func10, Tryd.ntmps10
    go_wp2
    go_ret
    exact ⟨by first | rfl | (simp; done) | (simp [*]; done), by repeat (first | exact Drawn0.refl _ | apply Drawn0.step)⟩
  · have H1 : (some q203) = some r := by rw [if_neg (show ¬ (some q203).isNone = true by simp)] at H; exact H
    clear H
    have H := H1
    clear H1
    simp only [errW_none, errW_some]
    obtain rfl := Option.some.inj H
    go_enter Tryd.func10, Tryd.ntmps10
    go_wp2
    go_ret
    exact ⟨by first | rfl | (simp; done) | (simp [*]; done), by repeat (first | exact Drawn0.refl _ | apply Drawn0.step)⟩

end Go.Proofs.YtmncgmgcngokoaaDoor.Xl
