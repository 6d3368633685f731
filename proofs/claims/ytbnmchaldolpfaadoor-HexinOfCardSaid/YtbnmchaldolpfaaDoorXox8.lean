-- PRINTED by print.py (a twelfth state) out of the translation. Not trusted: Lean checks it.
import Derived.Test.YtbnmchaldolpfaaDoorXox0
import Derived.Test.YtbnmchaldolpfaaDoorXox5
import Derived.Test.YtbnmchaldolpfaaDoorXox6
import Derived.Test.YtbnmchaldolpfaaDoorXox7
namespace Go.Proofs.YtbnmchaldolpfaaDoor.Xo
open Go.RowKit Go.Proofs.YtbnmchaldolpfaaDoorW.PrintWords Go.Proofs.YtbnmchaldolpfaaDoorW.PrintLast Go.Proofs.YtbnmchaldolpfaaDoorW.PrintMore
attribute [local go_sem] max2_int min2_int max_two min_two max_three min_three max_four min_four   -- for this text's walks alone
set_option linter.unusedVariables false
set_option linter.unusedSimpArgs false

/-! ### numeralref11_Pack: function 46 -/
mutual
def numeralref11_Pack.j0 : Nat → Int → Bool → Int → Int → Int → Option (Int × Int)
 | 0, _, _, _, _, _ => none
 | k + 1, x1, x257000, x257001, x257002, x257003 => if x257001 = 1 then ((numeralref11_Signed.f x257000 0 x1).bind fun t258 => (some (t258, 0))) else (if x257001 = 3 then ((numeralref11_inf.f x1).bind fun t259 => ((numeralref11_Signed.f x257000 t259 x1).bind fun t260 => (some (t260, 0)))) else (if x257001 = 4 then ((numeralref11_NaN.f x1).bind fun t261 => (some (t261, 0))) else ((numeralref11_Frac.f x1).bind fun t262 => (if x257003 < (-4000) then (numeralref11_Pack.j1 k x1 x257002 x257003 (IntKind.u64.wrap (t262)) true x257000 x257001 x257002 x257003) else (numeralref11_Pack.j1 k x1 x257002 x257003 (IntKind.u64.wrap (t262)) (decide (x257003 > 4000)) x257000 x257001 x257002 x257003)))))
def numeralref11_Pack.j1 : Nat → Int → Int → Int → Int → Bool → Bool → Int → Int → Int → Option (Int × Int)
 | 0, _, _, _, _, _, _, _, _, _ => none
 | k + 1, x1, x6, x7, x8, x65, x257000, x257001, x257002, x257003 => if x65 = true then (some (0, 4)) else (numeralref11_Pack.l0 k x1 x6 x7 x8 x257000 x257001 x257002 x257003)
def numeralref11_Pack.j3 : Nat → Int → Int → Int → Int → Bool → Int → Int → Int → Option (Int × Int)
 | 0, _, _, _, _, _, _, _, _ => none
 | k + 1, x1, x6, x7, x8, x257000, x257001, x257002, x257003 => numeralref11_Pack.l1 k x1 x6 x7 x8 x257000 x257001 x257002 x257003
def numeralref11_Pack.j5 : Nat → Int → Int → Int → Int → Bool → Int → Int → Int → Option (Int × Int)
 | 0, _, _, _, _, _, _, _, _ => none
 | k + 1, x1, x6, x7, x8, x257000, x257001, x257002, x257003 => (numeralref11_Low.f x1).bind fun t265 => (if 0 ≤ (IntKind.u64.wrap (x8 + 1)) then (if (shr .u64 x6 (IntKind.u64.wrap (x8 + 1))) = 0 then ((numeralref11_Low.f x1).bind fun t266 => (if x7 < t266 then (numeralref11_Pack.j6 k x1 x6 x8 (wrap64 ((wrap64 (x7 - t265)) + 1)) true x257000 x257001 x257002 x257003) else (if 0 ≤ x8 then (if (shr .u64 x6 x8) = 0 then (numeralref11_Pack.j6 k x1 x6 x8 (wrap64 ((wrap64 (x7 - t265)) + 1)) false x257000 x257001 x257002 x257003) else ((numeralref11_Top.f x1).bind fun t267 => (numeralref11_Pack.j6 k x1 x6 x8 (wrap64 ((wrap64 (x7 - t265)) + 1)) (decide ((wrap64 ((wrap64 (x7 - t265)) + 1)) ≥ (wrap64 (t267)))) x257000 x257001 x257002 x257003))) else (none)))) else (numeralref11_Pack.j6 k x1 x6 x8 (wrap64 ((wrap64 (x7 - t265)) + 1)) true x257000 x257001 x257002 x257003)) else (none))
def numeralref11_Pack.j6 : Nat → Int → Int → Int → Int → Bool → Bool → Int → Int → Int → Option (Int × Int)
 | 0, _, _, _, _, _, _, _, _, _ => none
 | k + 1, x1, x6, x8, x9, x128, x257000, x257001, x257002, x257003 => if x128 = true then (some (0, 4)) else (if 0 ≤ x8 then (if (shr .u64 x6 x8) = 0 then ((numeralref11_Signed.f x257000 x6 x1).bind fun t268 => (some (t268, 0))) else ((numeralref11_Signed.f x257000 (Go.bits .or .u64 (shl .u64 (IntKind.u64.wrap (x9)) x8) (Go.bits .and .u64 x6 (IntKind.u64.wrap ((shl .u64 1 x8) - 1)))) x1).bind fun t269 => (some (t269, 0)))) else (none))
def numeralref11_Pack.l1 : Nat → Int → Int → Int → Int → Bool → Int → Int → Int → Option (Int × Int)
 | 0, _, _, _, _, _, _, _, _ => none
 | k + 1, x1, x6, x7, x8, x257000, x257001, x257002, x257003 => if 0 ≤ x8 then (if (shr .u64 x6 x8) = 0 then ((numeralref11_Low.f x1).bind fun t264 => (if x7 > t264 then (numeralref11_Pack.l1 k x1 (IntKind.u64.wrap (x6 * 2)) (wrap64 (x7 - 1)) x8 x257000 x257001 x257002 x257003) else (numeralref11_Pack.j5 k x1 x6 x7 x8 x257000 x257001 x257002 x257003))) else (numeralref11_Pack.j5 k x1 x6 x7 x8 x257000 x257001 x257002 x257003)) else (none)
def numeralref11_Pack.l0 : Nat → Int → Int → Int → Int → Bool → Int → Int → Int → Option (Int × Int)
 | 0, _, _, _, _, _, _, _, _ => none
 | k + 1, x1, x6, x7, x8, x257000, x257001, x257002, x257003 => if (Go.bits .and .u64 x6 1) = 0 then (if 0 ≤ (IntKind.u64.wrap (x8 + 1)) then (if (shr .u64 x6 (IntKind.u64.wrap (x8 + 1))) = 0 then ((numeralref11_Low.f x1).bind fun t263 => (if x7 < t263 then (numeralref11_Pack.l0 k x1 (x6 / 2) (wrap64 (x7 + 1)) x8 x257000 x257001 x257002 x257003) else (numeralref11_Pack.j3 k x1 x6 x7 x8 x257000 x257001 x257002 x257003))) else (numeralref11_Pack.l0 k x1 (x6 / 2) (wrap64 (x7 + 1)) x8 x257000 x257001 x257002 x257003)) else (none)) else (numeralref11_Pack.j3 k x1 x6 x7 x8 x257000 x257001 x257002 x257003)
end
def numeralref11_Pack.f (k : Nat) (a0_0 : Bool) (a0_1 : Int) (a0_2 : Int) (a0_3 : Int) (a1 : Int) : Option (Int × Int) := (numeralref11_Size.f a1).bind fun t257 => (if t257 = true then (if a0_1 < 1 then (some (0, 1)) else (if a0_1 > 4 then (some (0, 1)) else (if a0_1 = 2 then (if a0_2 = 0 then (some (0, 1)) else (numeralref11_Pack.j0 k a1 a0_0 a0_1 a0_2 a0_3)) else (numeralref11_Pack.j0 k a1 a0_0 a0_1 a0_2 a0_3)))) else (some (0, 5)))
set_option maxHeartbeats 8000000 in
set_option maxRecDepth 100000 in
theorem numeralref11_Pack.calls (k : Nat) (a0_0 : Bool) (a0_1 : Int) (a0_2 : Int) (a0_3 : Int) (a1 : Int) (r1 : Int) (r2 : Int) (w : World) (h : numeralref11_Pack.f k a0_0 a0_1 a0_2 a0_3 a1 = some (r1, r2)) :
  Calls Tryd.prog 46 #[.agg #[.bool a0_0, .int .i64 a0_1, .int .u64 a0_2, .int .i64 a0_3], .int .i64 a1] w fun e w' => e = .returned (.tuple #[.int .u64 r1, .int .i64 r2]) ∧ Below w.heap.size w w' := by
 have hu46 := Tryd.underlying46
 have HB := Aside0.mk (Below.refl w.heap.size w)
 have H : ((numeralref11_Size.f a1).bind fun t257 => (if t257 = true then (if a0_1 < 1 then (some (0, 1)) else (if a0_1 > 4 then (some (0, 1)) else (if a0_1 = 2 then (if a0_2 = 0 then (some (0, 1)) else (numeralref11_Pack.j0 k a1 a0_0 a0_1 a0_2 a0_3)) else (numeralref11_Pack.j0 k a1 a0_0 a0_1 a0_2 a0_3)))) else (some (0, 5)))) = some (r1, r2) := h
 clear h
 have HC3 := Aside0.mk H
 clear H
 go_enter Tryd.func46, Tryd.ntmps46
 go_upto_block 0 with (first | ((with_reducible refine gate_dst (N := 2) rfl ?_); refine box_event ?hg (N := 2) ?hd (cs := #[.bool a0_0, .int .i64 a0_1, .int .u64 a0_2, .int .i64 a0_3]) (t := 46) ?hr ?_; (case hd => rfl); (case hg => rfl); (case hr => first | (go_simp; done) | (go_simp; rfl)); intro gb256 hg w4 hbox hb; have n0_ := Aside0.mk (below_step (by repeat (first | (with_reducible first | exact HB.out | apply below_alloc | apply pw_below_drewN | apply below_drew1) | exact HB.out)) hb); have n1_ := Aside0.mk (hbox); have n2_ := Aside0.mk ((by rw [hg]; exact (below_size (by repeat (first | (with_reducible first | exact HB.out | apply below_alloc | apply pw_below_drewN | apply below_drew1) | exact HB.out))) : w.heap.size ≤ gb256)); have n3_ := Aside0.mk ((by rw [hg]; exact (below_size (by repeat (first | (with_reducible first | exact HB.out | apply below_alloc | apply pw_below_drewN | apply below_drew1) | exact HB.out))) : w.heap.size ≤ gb256)); clear HB; have HB := n0_; have BK256 := n1_; have GW256 := n2_; have GE256 := n3_; clear n0_ n1_ n2_ n3_; clear hb hbox hg))
 repeat (go_quiet (first | ((with_reducible refine gate_dst (N := 2) rfl ?_); refine box_event ?hg (N := 2) ?hd (cs := #[.bool a0_0, .int .i64 a0_1, .int .u64 a0_2, .int .i64 a0_3]) (t := 46) ?hr ?_; (case hd => rfl); (case hg => rfl); (case hr => first | (go_simp; done) | (go_simp; rfl)); intro gb256 hg w4 hbox hb; have n0_ := Aside0.mk (below_step (by repeat (first | (with_reducible first | exact HB.out | apply below_alloc | apply pw_below_drewN | apply below_drew1) | exact HB.out)) hb); have n1_ := Aside0.mk (hbox); have n2_ := Aside0.mk ((by rw [hg]; exact (below_size (by repeat (first | (with_reducible first | exact HB.out | apply below_alloc | apply pw_below_drewN | apply below_drew1) | exact HB.out))) : w.heap.size ≤ gb256)); have n3_ := Aside0.mk ((by rw [hg]; exact (below_size (by repeat (first | (with_reducible first | exact HB.out | apply below_alloc | apply pw_below_drewN | apply below_drew1) | exact HB.out))) : w.heap.size ≤ gb256)); clear HB; have HB := n0_; have BK256 := n1_; have GW256 := n2_; have GE256 := n3_; clear n0_ n1_ n2_ n3_; clear hb hbox hg)); go_upto_block 0 with (first | ((with_reducible refine gate_dst (N := 2) rfl ?_); refine box_event ?hg (N := 2) ?hd (cs := #[.bool a0_0, .int .i64 a0_1, .int .u64 a0_2, .int .i64 a0_3]) (t := 46) ?hr ?_; (case hd => rfl); (case hg => rfl); (case hr => first | (go_simp; done) | (go_simp; rfl)); intro gb256 hg w4 hbox hb; have n0_ := Aside0.mk (below_step (by repeat (first | (with_reducible first | exact HB.out | apply below_alloc | apply pw_below_drewN | apply below_drew1) | exact HB.out)) hb); have n1_ := Aside0.mk (hbox); have n2_ := Aside0.mk ((by rw [hg]; exact (below_size (by repeat (first | (with_reducible first | exact HB.out | apply below_alloc | apply pw_below_drewN | apply below_drew1) | exact HB.out))) : w.heap.size ≤ gb256)); have n3_ := Aside0.mk ((by rw [hg]; exact (below_size (by repeat (first | (with_reducible first | exact HB.out | apply below_alloc | apply pw_below_drewN | apply below_drew1) | exact HB.out))) : w.heap.size ≤ gb256)); clear HB; have HB := n0_; have BK256 := n1_; have GW256 := n2_; have GE256 := n3_; clear n0_ n1_ n2_ n3_; clear hb hbox hg)))
 (try simp only [Act.put, List.setIfInBounds_toArray, List.set_cons_zero, List.set_cons_succ])
 go_cut [] (fun wc => ∃ (kq : Nat), Aside0 (numeralref11_Pack.j0 kq a1 a0_0 a0_1 a0_2 a0_3 = some (r1, r2)) ∧ Aside0 (kq ≤ k) ∧ Aside0 (wc.heap[gb256]? = some (.cells #[.bool a0_0, .int .i64 a0_1, .int .u64 a0_2, .int .i64 a0_3] 46 (0, 0))) ∧ Aside0 (Below w.heap.size w wc))
 case first =>
  have H := HC3.out
  clear HC3
  replace H := Option.bind_eq_some_iff.mp H
  obtain ⟨t257, A50, H⟩ := H
  replace H : (if t257 = true then (if a0_1 < 1 then (some (0, 1)) else (if a0_1 > 4 then (some (0, 1)) else (if a0_1 = 2 then (if a0_2 = 0 then (some (0, 1)) else (numeralref11_Pack.j0 k a1 a0_0 a0_1 a0_2 a0_3)) else (numeralref11_Pack.j0 k a1 a0_0 a0_1 a0_2 a0_3)))) else (some (0, 5))) = some (r1, r2) := H
  have A5 := Aside0.mk A50
  clear A50
  by_cases c6 : t257 = true
  ·subst c6
   have H1 : (if a0_1 < 1 then (some (0, 1)) else (if a0_1 > 4 then (some (0, 1)) else (if a0_1 = 2 then (if a0_2 = 0 then (some (0, 1)) else (numeralref11_Pack.j0 k a1 a0_0 a0_1 a0_2 a0_3)) else (numeralref11_Pack.j0 k a1 a0_0 a0_1 a0_2 a0_3)))) = some (r1, r2) := by rw [if_pos rfl] at H; exact H
   clear H
   have H := H1
   clear H1
   by_cases c7 : a0_1 < 1
   ·rw [if_pos c7] at H
    have c7b0 : decide (a0_1 < 1) = true := decide_eq_true c7
    clear c7
    (first | rw [c7b0] | (simp only [i64_w, i32_w]; rw [c7b0]) | skip)
    simp only [Option.some.injEq, Prod.mk.injEq] at H
    obtain ⟨rfl, rfl⟩ := H
    go_wp2_with (first | (go_at_call 16; (with_reducible refine (numeralref11_Size.calls a1 true _ A5.out).mono ?_); rintro e w' ⟨rfl, ⟨nd, rfl⟩⟩; (try first | exact ⟨rfl, _, World.drewN_drewN _ _ _⟩ | exact ⟨rfl, _, Eq.trans (World.drewN_drewN _ _ _) (congrArg (World.drewN _) (Nat.add_assoc _ _ _))⟩); have hcz8_0 : w4.cell? ⟨gb256, 0, none⟩ = some (.bool a0_0) := (blk_cell BK256.out 0).trans rfl; have hcz8_1 : w4.cell? ⟨gb256, 1, none⟩ = some (.int .i64 a0_1) := (blk_cell BK256.out 1).trans rfl; have hcz8_2 : w4.cell? ⟨gb256, 2, none⟩ = some (.int .u64 a0_2) := (blk_cell BK256.out 2).trans rfl; have hcz8_3 : w4.cell? ⟨gb256, 3, none⟩ = some (.int .i64 a0_3) := (blk_cell BK256.out 3).trans rfl; have hfz8_0 := blk_frozen BK256.out 0; have hfz8_1 := blk_frozen BK256.out 1; have hfz8_2 := blk_frozen BK256.out 2; have hfz8_3 := blk_frozen BK256.out 3))
    repeat (go_quiet (first | (go_at_call 16; (with_reducible refine (numeralref11_Size.calls a1 true _ A5.out).mono ?_); rintro e w' ⟨rfl, ⟨nd, rfl⟩⟩; (try first | exact ⟨rfl, _, World.drewN_drewN _ _ _⟩ | exact ⟨rfl, _, Eq.trans (World.drewN_drewN _ _ _) (congrArg (World.drewN _) (Nat.add_assoc _ _ _))⟩); have hcz8_0 : w4.cell? ⟨gb256, 0, none⟩ = some (.bool a0_0) := (blk_cell BK256.out 0).trans rfl; have hcz8_1 : w4.cell? ⟨gb256, 1, none⟩ = some (.int .i64 a0_1) := (blk_cell BK256.out 1).trans rfl; have hcz8_2 : w4.cell? ⟨gb256, 2, none⟩ = some (.int .u64 a0_2) := (blk_cell BK256.out 2).trans rfl; have hcz8_3 : w4.cell? ⟨gb256, 3, none⟩ = some (.int .i64 a0_3) := (blk_cell BK256.out 3).trans rfl; have hfz8_0 := blk_frozen BK256.out 0; have hfz8_1 := blk_frozen BK256.out 1; have hfz8_2 := blk_frozen BK256.out 2; have hfz8_3 := blk_frozen BK256.out 3)); try go_wp2_with (first | (go_at_call 16; (with_reducible refine (numeralref11_Size.calls a1 true _ A5.out).mono ?_); rintro e w' ⟨rfl, ⟨nd, rfl⟩⟩; (try first | exact ⟨rfl, _, World.drewN_drewN _ _ _⟩ | exact ⟨rfl, _, Eq.trans (World.drewN_drewN _ _ _) (congrArg (World.drewN _) (Nat.add_assoc _ _ _))⟩); have hcz8_0 : w4.cell? ⟨gb256, 0, none⟩ = some (.bool a0_0) := (blk_cell BK256.out 0).trans rfl; have hcz8_1 : w4.cell? ⟨gb256, 1, none⟩ = some (.int .i64 a0_1) := (blk_cell BK256.out 1).trans rfl; have hcz8_2 : w4.cell? ⟨gb256, 2, none⟩ = some (.int .u64 a0_2) := (blk_cell BK256.out 2).trans rfl; have hcz8_3 : w4.cell? ⟨gb256, 3, none⟩ = some (.int .i64 a0_3) := (blk_cell BK256.out 3).trans rfl; have hfz8_0 := blk_frozen BK256.out 0; have hfz8_1 := blk_frozen BK256.out 1; have hfz8_2 := blk_frozen BK256.out 2; have hfz8_3 := blk_frozen BK256.out 3)))
    go_ret2
    exact ⟨by first | rfl | (simp [errW_none, errW_some] <;> rfl) | (simp [*, errW_none, errW_some] <;> rfl), by repeat (first | (with_reducible first | exact HB.out | apply below_alloc | apply pw_below_drewN | apply below_drew1 | refine below_set ?_ GE256.out) | exact HB.out)⟩
   ·rw [if_neg c7] at H
    have c7b0 : decide (a0_1 < 1) = false := decide_eq_false c7
    clear c7
    (first | rw [c7b0] | (simp only [i64_w, i32_w]; rw [c7b0]) | skip)
    by_cases c9 : a0_1 > 4
    ·rw [if_pos c9] at H
     have c9b0 : decide (4 < a0_1) = true := decide_eq_true c9
     clear c9
     simp only [Option.some.injEq, Prod.mk.injEq] at H
     obtain ⟨rfl, rfl⟩ := H
     go_wp2_with (first | (go_at_call 16; (with_reducible refine (numeralref11_Size.calls a1 true _ A5.out).mono ?_); rintro e w' ⟨rfl, ⟨nd, rfl⟩⟩; (try first | exact ⟨rfl, _, World.drewN_drewN _ _ _⟩ | exact ⟨rfl, _, Eq.trans (World.drewN_drewN _ _ _) (congrArg (World.drewN _) (Nat.add_assoc _ _ _))⟩); have hcz10_0 : w4.cell? ⟨gb256, 0, none⟩ = some (.bool a0_0) := (blk_cell BK256.out 0).trans rfl; have hcz10_1 : w4.cell? ⟨gb256, 1, none⟩ = some (.int .i64 a0_1) := (blk_cell BK256.out 1).trans rfl; have hcz10_2 : w4.cell? ⟨gb256, 2, none⟩ = some (.int .u64 a0_2) := (blk_cell BK256.out 2).trans rfl; have hcz10_3 : w4.cell? ⟨gb256, 3, none⟩ = some (.int .i64 a0_3) := (blk_cell BK256.out 3).trans rfl; have hfz10_0 := blk_frozen BK256.out 0; have hfz10_1 := blk_frozen BK256.out 1; have hfz10_2 := blk_frozen BK256.out 2; have hfz10_3 := blk_frozen BK256.out 3))
     repeat (go_quiet (first | (go_at_call 16; (with_reducible refine (numeralref11_Size.calls a1 true _ A5.out).mono ?_); rintro e w' ⟨rfl, ⟨nd, rfl⟩⟩; (try first | exact ⟨rfl, _, World.drewN_drewN _ _ _⟩ | exact ⟨rfl, _, Eq.trans (World.drewN_drewN _ _ _) (congrArg (World.drewN _) (Nat.add_assoc _ _ _))⟩); have hcz10_0 : w4.cell? ⟨gb256, 0, none⟩ = some (.bool a0_0) := (blk_cell BK256.out 0).trans rfl; have hcz10_1 : w4.cell? ⟨gb256, 1, none⟩ = some (.int .i64 a0_1) := (blk_cell BK256.out 1).trans rfl; have hcz10_2 : w4.cell? ⟨gb256, 2, none⟩ = some (.int .u64 a0_2) := (blk_cell BK256.out 2).trans rfl; have hcz10_3 : w4.cell? ⟨gb256, 3, none⟩ = some (.int .i64 a0_3) := (blk_cell BK256.out 3).trans rfl; have hfz10_0 := blk_frozen BK256.out 0; have hfz10_1 := blk_frozen BK256.out 1; have hfz10_2 := blk_frozen BK256.out 2; have hfz10_3 := blk_frozen BK256.out 3)); try go_wp2_with (first | (go_at_call 16; (with_reducible refine (numeralref11_Size.calls a1 true _ A5.out).mono ?_); rintro e w' ⟨rfl, ⟨nd, rfl⟩⟩; (try first | exact ⟨rfl, _, World.drewN_drewN _ _ _⟩ | exact ⟨rfl, _, Eq.trans (World.drewN_drewN _ _ _) (congrArg (World.drewN _) (Nat.add_assoc _ _ _))⟩); have hcz10_0 : w4.cell? ⟨gb256, 0, none⟩ = some (.bool a0_0) := (blk_cell BK256.out 0).trans rfl; have hcz10_1 : w4.cell? ⟨gb256, 1, none⟩ = some (.int .i64 a0_1) := (blk_cell BK256.out 1).trans rfl; have hcz10_2 : w4.cell? ⟨gb256, 2, none⟩ = some (.int .u64 a0_2) := (blk_cell BK256.out 2).trans rfl; have hcz10_3 : w4.cell? ⟨gb256, 3, none⟩ = some (.int .i64 a0_3) := (blk_cell BK256.out 3).trans rfl; have hfz10_0 := blk_frozen BK256.out 0; have hfz10_1 := blk_frozen BK256.out 1; have hfz10_2 := blk_frozen BK256.out 2; have hfz10_3 := blk_frozen BK256.out 3)))
     go_ret2
     exact ⟨by first | rfl | (simp [errW_none, errW_some] <;> rfl) | (simp [*, errW_none, errW_some] <;> rfl), by repeat (first | (with_reducible first | exact HB.out | apply below_alloc | apply pw_below_drewN | apply below_drew1 | refine below_set ?_ GE256.out) | exact HB.out)⟩
    ·rw [if_neg c9] at H
     have c9b0 : decide (4 < a0_1) = false := decide_eq_false c9
     clear c9
     by_cases c11 : a0_1 = 2
     ·rw [if_pos c11] at H
      have c11b0 : (a0_1 == 2) = true := beq_iff_eq.mpr c11
      have c11b1 : (a0_1 != 2) = false := bne_eq_false_iff_eq.mpr c11
      clear c11
      by_cases c12 : a0_2 = 0
      ·rw [if_pos c12] at H
       have c12b0 : (a0_2 == 0) = true := beq_iff_eq.mpr c12
       have c12b1 : (a0_2 != 0) = false := bne_eq_false_iff_eq.mpr c12
       clear c12
       simp only [Option.some.injEq, Prod.mk.injEq] at H
       obtain ⟨rfl, rfl⟩ := H
       go_wp2_with (first | (go_at_call 16; (with_reducible refine (numeralref11_Size.calls a1 true _ A5.out).mono ?_); rintro e w' ⟨rfl, ⟨nd, rfl⟩⟩; (try first | exact ⟨rfl, _, World.drewN_drewN _ _ _⟩ | exact ⟨rfl, _, Eq.trans (World.drewN_drewN _ _ _) (congrArg (World.drewN _) (Nat.add_assoc _ _ _))⟩); have hcz13_0 : w4.cell? ⟨gb256, 0, none⟩ = some (.bool a0_0) := (blk_cell BK256.out 0).trans rfl; have hcz13_1 : w4.cell? ⟨gb256, 1, none⟩ = some (.int .i64 a0_1) := (blk_cell BK256.out 1).trans rfl; have hcz13_2 : w4.cell? ⟨gb256, 2, none⟩ = some (.int .u64 a0_2) := (blk_cell BK256.out 2).trans rfl; have hcz13_3 : w4.cell? ⟨gb256, 3, none⟩ = some (.int .i64 a0_3) := (blk_cell BK256.out 3).trans rfl; have hfz13_0 := blk_frozen BK256.out 0; have hfz13_1 := blk_frozen BK256.out 1; have hfz13_2 := blk_frozen BK256.out 2; have hfz13_3 := blk_frozen BK256.out 3))
       repeat (go_quiet (first | (go_at_call 16; (with_reducible refine (numeralref11_Size.calls a1 true _ A5.out).mono ?_); rintro e w' ⟨rfl, ⟨nd, rfl⟩⟩; (try first | exact ⟨rfl, _, World.drewN_drewN _ _ _⟩ | exact ⟨rfl, _, Eq.trans (World.drewN_drewN _ _ _) (congrArg (World.drewN _) (Nat.add_assoc _ _ _))⟩); have hcz13_0 : w4.cell? ⟨gb256, 0, none⟩ = some (.bool a0_0) := (blk_cell BK256.out 0).trans rfl; have hcz13_1 : w4.cell? ⟨gb256, 1, none⟩ = some (.int .i64 a0_1) := (blk_cell BK256.out 1).trans rfl; have hcz13_2 : w4.cell? ⟨gb256, 2, none⟩ = some (.int .u64 a0_2) := (blk_cell BK256.out 2).trans rfl; have hcz13_3 : w4.cell? ⟨gb256, 3, none⟩ = some (.int .i64 a0_3) := (blk_cell BK256.out 3).trans rfl; have hfz13_0 := blk_frozen BK256.out 0; have hfz13_1 := blk_frozen BK256.out 1; have hfz13_2 := blk_frozen BK256.out 2; have hfz13_3 := blk_frozen BK256.out 3)); try go_wp2_with (first | (go_at_call 16; (with_reducible refine (numeralref11_Size.calls a1 true _ A5.out).mono ?_); rintro e w' ⟨rfl, ⟨nd, rfl⟩⟩; (try first | exact ⟨rfl, _, World.drewN_drewN _ _ _⟩ | exact ⟨rfl, _, Eq.trans (World.drewN_drewN _ _ _) (congrArg (World.drewN _) (Nat.add_assoc _ _ _))⟩); have hcz13_0 : w4.cell? ⟨gb256, 0, none⟩ = some (.bool a0_0) := (blk_cell BK256.out 0).trans rfl; have hcz13_1 : w4.cell? ⟨gb256, 1, none⟩ = some (.int .i64 a0_1) := (blk_cell BK256.out 1).trans rfl; have hcz13_2 : w4.cell? ⟨gb256, 2, none⟩ = some (.int .u64 a0_2) := (blk_cell BK256.out 2).trans rfl; have hcz13_3 : w4.cell? ⟨gb256, 3, none⟩ = some (.int .i64 a0_3) := (blk_cell BK256.out 3).trans rfl; have hfz13_0 := blk_frozen BK256.out 0; have hfz13_1 := blk_frozen BK256.out 1; have hfz13_2 := blk_frozen BK256.out 2; have hfz13_3 := blk_frozen BK256.out 3)))
       go_ret2
       exact ⟨by first | rfl | (simp [errW_none, errW_some] <;> rfl) | (simp [*, errW_none, errW_some] <;> rfl), by repeat (first | (with_reducible first | exact HB.out | apply below_alloc | apply pw_below_drewN | apply below_drew1 | refine below_set ?_ GE256.out) | exact HB.out)⟩
      ·rw [if_neg c12] at H
       have c12b0 : (a0_2 == 0) = false := beq_eq_false_iff_ne.mpr c12
       have c12b1 : (a0_2 != 0) = true := bne_iff_ne.mpr c12
       have H' := Aside0.mk H
       clear H
       go_wp2_with (first | (go_at_call 16; (with_reducible refine (numeralref11_Size.calls a1 true _ A5.out).mono ?_); rintro e w' ⟨rfl, ⟨nd, rfl⟩⟩; (try first | exact ⟨rfl, _, World.drewN_drewN _ _ _⟩ | exact ⟨rfl, _, Eq.trans (World.drewN_drewN _ _ _) (congrArg (World.drewN _) (Nat.add_assoc _ _ _))⟩); have hcz14_0 : w4.cell? ⟨gb256, 0, none⟩ = some (.bool a0_0) := (blk_cell BK256.out 0).trans rfl; have hcz14_1 : w4.cell? ⟨gb256, 1, none⟩ = some (.int .i64 a0_1) := (blk_cell BK256.out 1).trans rfl; have hcz14_2 : w4.cell? ⟨gb256, 2, none⟩ = some (.int .u64 a0_2) := (blk_cell BK256.out 2).trans rfl; have hcz14_3 : w4.cell? ⟨gb256, 3, none⟩ = some (.int .i64 a0_3) := (blk_cell BK256.out 3).trans rfl; have hfz14_0 := blk_frozen BK256.out 0; have hfz14_1 := blk_frozen BK256.out 1; have hfz14_2 := blk_frozen BK256.out 2; have hfz14_3 := blk_frozen BK256.out 3))
       repeat (go_quiet (first | (go_at_call 16; (with_reducible refine (numeralref11_Size.calls a1 true _ A5.out).mono ?_); rintro e w' ⟨rfl, ⟨nd, rfl⟩⟩; (try first | exact ⟨rfl, _, World.drewN_drewN _ _ _⟩ | exact ⟨rfl, _, Eq.trans (World.drewN_drewN _ _ _) (congrArg (World.drewN _) (Nat.add_assoc _ _ _))⟩); have hcz14_0 : w4.cell? ⟨gb256, 0, none⟩ = some (.bool a0_0) := (blk_cell BK256.out 0).trans rfl; have hcz14_1 : w4.cell? ⟨gb256, 1, none⟩ = some (.int .i64 a0_1) := (blk_cell BK256.out 1).trans rfl; have hcz14_2 : w4.cell? ⟨gb256, 2, none⟩ = some (.int .u64 a0_2) := (blk_cell BK256.out 2).trans rfl; have hcz14_3 : w4.cell? ⟨gb256, 3, none⟩ = some (.int .i64 a0_3) := (blk_cell BK256.out 3).trans rfl; have hfz14_0 := blk_frozen BK256.out 0; have hfz14_1 := blk_frozen BK256.out 1; have hfz14_2 := blk_frozen BK256.out 2; have hfz14_3 := blk_frozen BK256.out 3)); try go_wp2_with (first | (go_at_call 16; (with_reducible refine (numeralref11_Size.calls a1 true _ A5.out).mono ?_); rintro e w' ⟨rfl, ⟨nd, rfl⟩⟩; (try first | exact ⟨rfl, _, World.drewN_drewN _ _ _⟩ | exact ⟨rfl, _, Eq.trans (World.drewN_drewN _ _ _) (congrArg (World.drewN _) (Nat.add_assoc _ _ _))⟩); have hcz14_0 : w4.cell? ⟨gb256, 0, none⟩ = some (.bool a0_0) := (blk_cell BK256.out 0).trans rfl; have hcz14_1 : w4.cell? ⟨gb256, 1, none⟩ = some (.int .i64 a0_1) := (blk_cell BK256.out 1).trans rfl; have hcz14_2 : w4.cell? ⟨gb256, 2, none⟩ = some (.int .u64 a0_2) := (blk_cell BK256.out 2).trans rfl; have hcz14_3 : w4.cell? ⟨gb256, 3, none⟩ = some (.int .i64 a0_3) := (blk_cell BK256.out 3).trans rfl; have hfz14_0 := blk_frozen BK256.out 0; have hfz14_1 := blk_frozen BK256.out 1; have hfz14_2 := blk_frozen BK256.out 2; have hfz14_3 := blk_frozen BK256.out 3)))
       go_meet
       case rel => exact ⟨_, H', ⟨by first | omega | exact Nat.le_refl _⟩, ⟨by (with_reducible repeat (first | refine blk_drewN ?_ _ | refine blk_drew ?_ | refine blk_alloc ?_ _)); exact BK256.out⟩, ⟨by repeat (first | (with_reducible first | exact HB.out | apply below_alloc | apply pw_below_drewN | apply below_drew1 | refine below_set ?_ GE256.out) | exact HB.out)⟩⟩
     ·rw [if_neg c11] at H
      have c11b0 : (a0_1 == 2) = false := beq_eq_false_iff_ne.mpr c11
      have c11b1 : (a0_1 != 2) = true := bne_iff_ne.mpr c11
      have H' := Aside0.mk H
      clear H
      go_wp2_with (first | (go_at_call 16; (with_reducible refine (numeralref11_Size.calls a1 true _ A5.out).mono ?_); rintro e w' ⟨rfl, ⟨nd, rfl⟩⟩; (try first | exact ⟨rfl, _, World.drewN_drewN _ _ _⟩ | exact ⟨rfl, _, Eq.trans (World.drewN_drewN _ _ _) (congrArg (World.drewN _) (Nat.add_assoc _ _ _))⟩); have hcz15_0 : w4.cell? ⟨gb256, 0, none⟩ = some (.bool a0_0) := (blk_cell BK256.out 0).trans rfl; have hcz15_1 : w4.cell? ⟨gb256, 1, none⟩ = some (.int .i64 a0_1) := (blk_cell BK256.out 1).trans rfl; have hcz15_2 : w4.cell? ⟨gb256, 2, none⟩ = some (.int .u64 a0_2) := (blk_cell BK256.out 2).trans rfl; have hcz15_3 : w4.cell? ⟨gb256, 3, none⟩ = some (.int .i64 a0_3) := (blk_cell BK256.out 3).trans rfl; have hfz15_0 := blk_frozen BK256.out 0; have hfz15_1 := blk_frozen BK256.out 1; have hfz15_2 := blk_frozen BK256.out 2; have hfz15_3 := blk_frozen BK256.out 3))
      repeat (go_quiet (first | (go_at_call 16; (with_reducible refine (numeralref11_Size.calls a1 true _ A5.out).mono ?_); rintro e w' ⟨rfl, ⟨nd, rfl⟩⟩; (try first | exact ⟨rfl, _, World.drewN_drewN _ _ _⟩ | exact ⟨rfl, _, Eq.trans (World.drewN_drewN _ _ _) (congrArg (World.drewN _) (Nat.add_assoc _ _ _))⟩); have hcz15_0 : w4.cell? ⟨gb256, 0, none⟩ = some (.bool a0_0) := (blk_cell BK256.out 0).trans rfl; have hcz15_1 : w4.cell? ⟨gb256, 1, none⟩ = some (.int .i64 a0_1) := (blk_cell BK256.out 1).trans rfl; have hcz15_2 : w4.cell? ⟨gb256, 2, none⟩ = some (.int .u64 a0_2) := (blk_cell BK256.out 2).trans rfl; have hcz15_3 : w4.cell? ⟨gb256, 3, none⟩ = some (.int .i64 a0_3) := (blk_cell BK256.out 3).trans rfl; have hfz15_0 := blk_frozen BK256.out 0; have hfz15_1 := blk_frozen BK256.out 1; have hfz15_2 := blk_frozen BK256.out 2; have hfz15_3 := blk_frozen BK256.out 3)); try go_wp2_with (first | (go_at_call 16; (with_reducible refine (numeralref11_Size.calls a1 true _ A5.out).mono ?_); rintro e w' ⟨rfl, ⟨nd, rfl⟩⟩; (try first | exact ⟨rfl, _, World.drewN_drewN _ _ _⟩ | exact ⟨rfl, _, Eq.trans (World.drewN_drewN _ _ _) (congrArg (World.drewN _) (Nat.add_assoc _ _ _))⟩); have hcz15_0 : w4.cell? ⟨gb256, 0, none⟩ = some (.bool a0_0) := (blk_cell BK256.out 0).trans rfl; have hcz15_1 : w4.cell? ⟨gb256, 1, none⟩ = some (.int .i64 a0_1) := (blk_cell BK256.out 1).trans rfl; have hcz15_2 : w4.cell? ⟨gb256, 2, none⟩ = some (.int .u64 a0_2) := (blk_cell BK256.out 2).trans rfl; have hcz15_3 : w4.cell? ⟨gb256, 3, none⟩ = some (.int .i64 a0_3) := (blk_cell BK256.out 3).trans rfl; have hfz15_0 := blk_frozen BK256.out 0; have hfz15_1 := blk_frozen BK256.out 1; have hfz15_2 := blk_frozen BK256.out 2; have hfz15_3 := blk_frozen BK256.out 3)))
      go_meet
      case rel => exact ⟨_, H', ⟨by first | omega | exact Nat.le_refl _⟩, ⟨by (with_reducible repeat (first | refine blk_drewN ?_ _ | refine blk_drew ?_ | refine blk_alloc ?_ _)); exact BK256.out⟩, ⟨by repeat (first | (with_reducible first | exact HB.out | apply below_alloc | apply pw_below_drewN | apply below_drew1 | refine below_set ?_ GE256.out) | exact HB.out)⟩⟩
  ·replace c6 := Bool.eq_false_iff.mpr c6
   subst c6
   have H1 : (some (0, 5)) = some (r1, r2) := by rw [if_neg (show ¬ (false = true) by decide)] at H; exact H
   clear H
   have H := H1
   clear H1
   simp only [Option.some.injEq, Prod.mk.injEq] at H
   obtain ⟨rfl, rfl⟩ := H
   go_wp2_with (first | (go_at_call 16; (with_reducible refine (numeralref11_Size.calls a1 false _ A5.out).mono ?_); rintro e w' ⟨rfl, ⟨nd, rfl⟩⟩; (try first | exact ⟨rfl, _, World.drewN_drewN _ _ _⟩ | exact ⟨rfl, _, Eq.trans (World.drewN_drewN _ _ _) (congrArg (World.drewN _) (Nat.add_assoc _ _ _))⟩)))
   repeat (go_quiet (first | (go_at_call 16; (with_reducible refine (numeralref11_Size.calls a1 false _ A5.out).mono ?_); rintro e w' ⟨rfl, ⟨nd, rfl⟩⟩; (try first | exact ⟨rfl, _, World.drewN_drewN _ _ _⟩ | exact ⟨rfl, _, Eq.trans (World.drewN_drewN _ _ _) (congrArg (World.drewN _) (Nat.add_assoc _ _ _))⟩))); try go_wp2_with (first | (go_at_call 16; (with_reducible refine (numeralref11_Size.calls a1 false _ A5.out).mono ?_); rintro e w' ⟨rfl, ⟨nd, rfl⟩⟩; (try first | exact ⟨rfl, _, World.drewN_drewN _ _ _⟩ | exact ⟨rfl, _, Eq.trans (World.drewN_drewN _ _ _) (congrArg (World.drewN _) (Nat.add_assoc _ _ _))⟩))))
   go_ret2
   exact ⟨by first | rfl | (simp [errW_none, errW_some] <;> rfl) | (simp [*, errW_none, errW_some] <;> rfl), by repeat (first | (with_reducible first | exact HB.out | apply below_alloc | apply pw_below_drewN | apply below_drew1 | refine below_set ?_ GE256.out) | exact HB.out)⟩
 case rest =>
  clear HC3
  try clear c1
  try clear p2
  try clear c4
  try clear c6
  try clear c7
  try clear c7b0
  try clear c9
  try clear c9b0
  try clear c11
  try clear c11b0
  try clear c11b1
  try clear c12
  try clear c12b0
  try clear c12b1
  try clear hcz10_0
  try clear hcz10_1
  try clear hcz10_2
  try clear hcz10_3
  try clear hcz13_0
  try clear hcz13_1
  try clear hcz13_2
  try clear hcz13_3
  try clear hcz14_0
  try clear hcz14_1
  try clear hcz14_2
  try clear hcz14_3
  try clear hcz15_0
  try clear hcz15_1
  try clear hcz15_2
  try clear hcz15_3
  try clear hcz8_0
  try clear hcz8_1
  try clear hcz8_2
  try clear hcz8_3
  try clear hfz10_0
  try clear hfz10_1
  try clear hfz10_2
  try clear hfz10_3
  try clear hfz13_0
  try clear hfz13_1
  try clear hfz13_2
  try clear hfz13_3
  try clear hfz14_0
  try clear hfz14_1
  try clear hfz14_2
  try clear hfz14_3
  try clear hfz15_0
  try clear hfz15_1
  try clear hfz15_2
  try clear hfz15_3
  try clear hfz8_0
  try clear hfz8_1
  try clear hfz8_2
  try clear hfz8_3
  obtain ⟨kq, HA, HJ2, BK256, HB⟩ := hcut
  cases kq with
  | zero => exact absurd HA.out (by simp [numeralref11_Pack.j0])
  | succ kj2 =>
   have H := HA.out
   clear HA
   simp only [numeralref11_Pack.j0] at H
   by_cases c16 : a0_1 = 1
   ·rw [if_pos c16] at H
    have c16b0 : (a0_1 == 1) = true := beq_iff_eq.mpr c16
    have c16b1 : (a0_1 != 1) = false := bne_eq_false_iff_eq.mpr c16
    clear c16
    replace H := Option.bind_eq_some_iff.mp H
    obtain ⟨t258, A170, H⟩ := H
    replace H : (some (t258, 0)) = some (r1, r2) := H
    have A17 := Aside0.mk A170
    clear A170
    simp only [Option.some.injEq, Prod.mk.injEq] at H
    obtain ⟨rfl, rfl⟩ := H
    have hcz18_0 : wc.cell? ⟨gb256, 0, none⟩ = some (.bool a0_0) := (blk_cell BK256.out 0).trans rfl
    have hcz18_1 : wc.cell? ⟨gb256, 1, none⟩ = some (.int .i64 a0_1) := (blk_cell BK256.out 1).trans rfl
    have hcz18_2 : wc.cell? ⟨gb256, 2, none⟩ = some (.int .u64 a0_2) := (blk_cell BK256.out 2).trans rfl
    have hcz18_3 : wc.cell? ⟨gb256, 3, none⟩ = some (.int .i64 a0_3) := (blk_cell BK256.out 3).trans rfl
    have hfz18_0 := blk_frozen BK256.out 0
    have hfz18_1 := blk_frozen BK256.out 1
    have hfz18_2 := blk_frozen BK256.out 2
    have hfz18_3 := blk_frozen BK256.out 3
    go_wp2_with (first | (go_at_call 30; (with_reducible refine (numeralref11_Signed.calls a0_0 0 a1 t258 _ A17.out).mono ?_); rintro e w' ⟨rfl, ⟨nd, rfl⟩⟩; (try first | exact ⟨rfl, _, World.drewN_drewN _ _ _⟩ | exact ⟨rfl, _, Eq.trans (World.drewN_drewN _ _ _) (congrArg (World.drewN _) (Nat.add_assoc _ _ _))⟩)))
    repeat (go_quiet (first | (go_at_call 30; (with_reducible refine (numeralref11_Signed.calls a0_0 0 a1 t258 _ A17.out).mono ?_); rintro e w' ⟨rfl, ⟨nd, rfl⟩⟩; (try first | exact ⟨rfl, _, World.drewN_drewN _ _ _⟩ | exact ⟨rfl, _, Eq.trans (World.drewN_drewN _ _ _) (congrArg (World.drewN _) (Nat.add_assoc _ _ _))⟩))); try go_wp2_with (first | (go_at_call 30; (with_reducible refine (numeralref11_Signed.calls a0_0 0 a1 t258 _ A17.out).mono ?_); rintro e w' ⟨rfl, ⟨nd, rfl⟩⟩; (try first | exact ⟨rfl, _, World.drewN_drewN _ _ _⟩ | exact ⟨rfl, _, Eq.trans (World.drewN_drewN _ _ _) (congrArg (World.drewN _) (Nat.add_assoc _ _ _))⟩))))
    go_ret2
    exact ⟨by first | rfl | (simp [errW_none, errW_some] <;> rfl) | (simp [*, errW_none, errW_some] <;> rfl), by repeat (first | (with_reducible first | exact HB.out | apply below_alloc | apply pw_below_drewN | apply below_drew1 | refine below_set ?_ GE256.out) | exact HB.out)⟩
   ·rw [if_neg c16] at H
    have c16b0 : (a0_1 == 1) = false := beq_eq_false_iff_ne.mpr c16
    have c16b1 : (a0_1 != 1) = true := bne_iff_ne.mpr c16
    by_cases c19 : a0_1 = 3
    ·rw [if_pos c19] at H
     have c19b0 : (a0_1 == 3) = true := beq_iff_eq.mpr c19
     have c19b1 : (a0_1 != 3) = false := bne_eq_false_iff_eq.mpr c19
     clear c19
     replace H := Option.bind_eq_some_iff.mp H
     obtain ⟨t259, A200, H⟩ := H
     replace H : ((numeralref11_Signed.f a0_0 t259 a1).bind fun t260 => (some (t260, 0))) = some (r1, r2) := H
     have A20 := Aside0.mk A200
     clear A200
     replace H := Option.bind_eq_some_iff.mp H
     obtain ⟨t260, A210, H⟩ := H
     replace H : (some (t260, 0)) = some (r1, r2) := H
     have A21 := Aside0.mk A210
     clear A210
     simp only [Option.some.injEq, Prod.mk.injEq] at H
     obtain ⟨rfl, rfl⟩ := H
     have hcz22_0 : wc.cell? ⟨gb256, 0, none⟩ = some (.bool a0_0) := (blk_cell BK256.out 0).trans rfl
     have hcz22_1 : wc.cell? ⟨gb256, 1, none⟩ = some (.int .i64 a0_1) := (blk_cell BK256.out 1).trans rfl
     have hcz22_2 : wc.cell? ⟨gb256, 2, none⟩ = some (.int .u64 a0_2) := (blk_cell BK256.out 2).trans rfl
     have hcz22_3 : wc.cell? ⟨gb256, 3, none⟩ = some (.int .i64 a0_3) := (blk_cell BK256.out 3).trans rfl
     have hfz22_0 := blk_frozen BK256.out 0
     have hfz22_1 := blk_frozen BK256.out 1
     have hfz22_2 := blk_frozen BK256.out 2
     have hfz22_3 := blk_frozen BK256.out 3
     go_wp2_with (first | (go_at_call 50; (with_reducible refine (numeralref11_inf.calls a1 t259 _ A20.out).mono ?_); rintro e w' ⟨rfl, ⟨nd, rfl⟩⟩; (try first | exact ⟨rfl, _, World.drewN_drewN _ _ _⟩ | exact ⟨rfl, _, Eq.trans (World.drewN_drewN _ _ _) (congrArg (World.drewN _) (Nat.add_assoc _ _ _))⟩)) | (go_at_call 30; (with_reducible refine (numeralref11_Signed.calls a0_0 t259 a1 t260 _ A21.out).mono ?_); rintro e w' ⟨rfl, ⟨nd, rfl⟩⟩; (try first | exact ⟨rfl, _, World.drewN_drewN _ _ _⟩ | exact ⟨rfl, _, Eq.trans (World.drewN_drewN _ _ _) (congrArg (World.drewN _) (Nat.add_assoc _ _ _))⟩)))
     repeat (go_quiet (first | (go_at_call 50; (with_reducible refine (numeralref11_inf.calls a1 t259 _ A20.out).mono ?_); rintro e w' ⟨rfl, ⟨nd, rfl⟩⟩; (try first | exact ⟨rfl, _, World.drewN_drewN _ _ _⟩ | exact ⟨rfl, _, Eq.trans (World.drewN_drewN _ _ _) (congrArg (World.drewN _) (Nat.add_assoc _ _ _))⟩)) | (go_at_call 30; (with_reducible refine (numeralref11_Signed.calls a0_0 t259 a1 t260 _ A21.out).mono ?_); rintro e w' ⟨rfl, ⟨nd, rfl⟩⟩; (try first | exact ⟨rfl, _, World.drewN_drewN _ _ _⟩ | exact ⟨rfl, _, Eq.trans (World.drewN_drewN _ _ _) (congrArg (World.drewN _) (Nat.add_assoc _ _ _))⟩))); try go_wp2_with (first | (go_at_call 50; (with_reducible refine (numeralref11_inf.calls a1 t259 _ A20.out).mono ?_); rintro e w' ⟨rfl, ⟨nd, rfl⟩⟩; (try first | exact ⟨rfl, _, World.drewN_drewN _ _ _⟩ | exact ⟨rfl, _, Eq.trans (World.drewN_drewN _ _ _) (congrArg (World.drewN _) (Nat.add_assoc _ _ _))⟩)) | (go_at_call 30; (with_reducible refine (numeralref11_Signed.calls a0_0 t259 a1 t260 _ A21.out).mono ?_); rintro e w' ⟨rfl, ⟨nd, rfl⟩⟩; (try first | exact ⟨rfl, _, World.drewN_drewN _ _ _⟩ | exact ⟨rfl, _, Eq.trans (World.drewN_drewN _ _ _) (congrArg (World.drewN _) (Nat.add_assoc _ _ _))⟩))))
     go_ret2
     exact ⟨by first | rfl | (simp [errW_none, errW_some] <;> rfl) | (simp [*, errW_none, errW_some] <;> rfl), by repeat (first | (with_reducible first | exact HB.out | apply below_alloc | apply pw_below_drewN | apply below_drew1 | refine below_set ?_ GE256.out) | exact HB.out)⟩
    ·rw [if_neg c19] at H
     have c19b0 : (a0_1 == 3) = false := beq_eq_false_iff_ne.mpr c19
     have c19b1 : (a0_1 != 3) = true := bne_iff_ne.mpr c19
     by_cases c23 : a0_1 = 4
     ·rw [if_pos c23] at H
      have c23b0 : (a0_1 == 4) = true := beq_iff_eq.mpr c23
      have c23b1 : (a0_1 != 4) = false := bne_eq_false_iff_eq.mpr c23
      clear c23
      replace H := Option.bind_eq_some_iff.mp H
      obtain ⟨t261, A240, H⟩ := H
      replace H : (some (t261, 0)) = some (r1, r2) := H
      have A24 := Aside0.mk A240
      clear A240
      simp only [Option.some.injEq, Prod.mk.injEq] at H
      obtain ⟨rfl, rfl⟩ := H
      have hcz25_0 : wc.cell? ⟨gb256, 0, none⟩ = some (.bool a0_0) := (blk_cell BK256.out 0).trans rfl
      have hcz25_1 : wc.cell? ⟨gb256, 1, none⟩ = some (.int .i64 a0_1) := (blk_cell BK256.out 1).trans rfl
      have hcz25_2 : wc.cell? ⟨gb256, 2, none⟩ = some (.int .u64 a0_2) := (blk_cell BK256.out 2).trans rfl
      have hcz25_3 : wc.cell? ⟨gb256, 3, none⟩ = some (.int .i64 a0_3) := (blk_cell BK256.out 3).trans rfl
      have hfz25_0 := blk_frozen BK256.out 0
      have hfz25_1 := blk_frozen BK256.out 1
      have hfz25_2 := blk_frozen BK256.out 2
      have hfz25_3 := blk_frozen BK256.out 3
      go_wp2_with (first | (go_at_call 51; (with_reducible refine (numeralref11_NaN.calls a1 t261 _ A24.out).mono ?_); rintro e w' ⟨rfl, ⟨nd, rfl⟩⟩; (try first | exact ⟨rfl, _, World.drewN_drewN _ _ _⟩ | exact ⟨rfl, _, Eq.trans (World.drewN_drewN _ _ _) (congrArg (World.drewN _) (Nat.add_assoc _ _ _))⟩)))
      repeat (go_quiet (first | (go_at_call 51; (with_reducible refine (numeralref11_NaN.calls a1 t261 _ A24.out).mono ?_); rintro e w' ⟨rfl, ⟨nd, rfl⟩⟩; (try first | exact ⟨rfl, _, World.drewN_drewN _ _ _⟩ | exact ⟨rfl, _, Eq.trans (World.drewN_drewN _ _ _) (congrArg (World.drewN _) (Nat.add_assoc _ _ _))⟩))); try go_wp2_with (first | (go_at_call 51; (with_reducible refine (numeralref11_NaN.calls a1 t261 _ A24.out).mono ?_); rintro e w' ⟨rfl, ⟨nd, rfl⟩⟩; (try first | exact ⟨rfl, _, World.drewN_drewN _ _ _⟩ | exact ⟨rfl, _, Eq.trans (World.drewN_drewN _ _ _) (congrArg (World.drewN _) (Nat.add_assoc _ _ _))⟩))))
      go_ret2
      exact ⟨by first | rfl | (simp [errW_none, errW_some] <;> rfl) | (simp [*, errW_none, errW_some] <;> rfl), by repeat (first | (with_reducible first | exact HB.out | apply below_alloc | apply pw_below_drewN | apply below_drew1 | refine below_set ?_ GE256.out) | exact HB.out)⟩
     ·rw [if_neg c23] at H
      have c23b0 : (a0_1 == 4) = false := beq_eq_false_iff_ne.mpr c23
      have c23b1 : (a0_1 != 4) = true := bne_iff_ne.mpr c23
      replace H := Option.bind_eq_some_iff.mp H
      obtain ⟨t262, A260, H⟩ := H
      replace H : (if a0_3 < (-4000) then (numeralref11_Pack.j1 kj2 a1 a0_2 a0_3 (IntKind.u64.wrap (t262)) true a0_0 a0_1 a0_2 a0_3) else (numeralref11_Pack.j1 kj2 a1 a0_2 a0_3 (IntKind.u64.wrap (t262)) (decide (a0_3 > 4000)) a0_0 a0_1 a0_2 a0_3)) = some (r1, r2) := H
      have A26 := Aside0.mk A260
      clear A260
      have HC27 := Aside0.mk H
      clear H
      have hcz28_0 : wc.cell? ⟨gb256, 0, none⟩ = some (.bool a0_0) := (blk_cell BK256.out 0).trans rfl
      have hcz28_1 : wc.cell? ⟨gb256, 1, none⟩ = some (.int .i64 a0_1) := (blk_cell BK256.out 1).trans rfl
      have hcz28_2 : wc.cell? ⟨gb256, 2, none⟩ = some (.int .u64 a0_2) := (blk_cell BK256.out 2).trans rfl
      have hcz28_3 : wc.cell? ⟨gb256, 3, none⟩ = some (.int .i64 a0_3) := (blk_cell BK256.out 3).trans rfl
      have hfz28_0 := blk_frozen BK256.out 0
      have hfz28_1 := blk_frozen BK256.out 1
      have hfz28_2 := blk_frozen BK256.out 2
      have hfz28_3 := blk_frozen BK256.out 3
      go_upto_region 14 with (first | (go_at_call 41; (with_reducible refine (numeralref11_Frac.calls a1 t262 _ A26.out).mono ?_); rintro e w' ⟨rfl, ⟨nd, rfl⟩⟩; (try first | exact ⟨rfl, _, World.drewN_drewN _ _ _⟩ | exact ⟨rfl, _, Eq.trans (World.drewN_drewN _ _ _) (congrArg (World.drewN _) (Nat.add_assoc _ _ _))⟩)))
      repeat (go_quiet (first | (go_at_call 41; (with_reducible refine (numeralref11_Frac.calls a1 t262 _ A26.out).mono ?_); rintro e w' ⟨rfl, ⟨nd, rfl⟩⟩; (try first | exact ⟨rfl, _, World.drewN_drewN _ _ _⟩ | exact ⟨rfl, _, Eq.trans (World.drewN_drewN _ _ _) (congrArg (World.drewN _) (Nat.add_assoc _ _ _))⟩))); go_upto_region 14 with (first | (go_at_call 41; (with_reducible refine (numeralref11_Frac.calls a1 t262 _ A26.out).mono ?_); rintro e w' ⟨rfl, ⟨nd, rfl⟩⟩; (try first | exact ⟨rfl, _, World.drewN_drewN _ _ _⟩ | exact ⟨rfl, _, Eq.trans (World.drewN_drewN _ _ _) (congrArg (World.drewN _) (Nat.add_assoc _ _ _))⟩))))
      (try simp only [Act.put, List.setIfInBounds_toArray, List.set_cons_zero, List.set_cons_succ])
      go_cut [65] (fun v65 wc => ∃ (kq : Nat) (x65_26 : Bool), v65 = .bool x65_26 ∧ Aside0 (numeralref11_Pack.j1 kq a1 a0_2 a0_3 (IntKind.u64.wrap (t262)) x65_26 a0_0 a0_1 a0_2 a0_3 = some (r1, r2)) ∧ Aside0 (kq ≤ kj2) ∧ Aside0 (wc.heap[gb256]? = some (.cells #[.bool a0_0, .int .i64 a0_1, .int .u64 a0_2, .int .i64 a0_3] 46 (0, 0))) ∧ Aside0 (Below w.heap.size w wc))
      case first =>
       have H := HC27.out
       clear HC27
       by_cases c29 : a0_3 < (-4000)
       ·rw [if_pos c29] at H
        have c29b0 : decide (a0_3 < (-4000)) = true := decide_eq_true c29
        clear c29
        (first | rw [c29b0] | (simp only [i64_w, i32_w]; rw [c29b0]) | skip)
        have H' := Aside0.mk H
        clear H
        go_wp2
        repeat (go_quiet (fail); try go_wp2)
        go_meet
        case rel => exact ⟨_, (true), (by first | rfl | (simp; done) | (simp [*]; done)), H', ⟨by have := HJ2.out; first | omega | exact Nat.le_refl _⟩, ⟨by (with_reducible repeat (first | refine blk_drewN ?_ _ | refine blk_drew ?_ | refine blk_alloc ?_ _)); exact BK256.out⟩, ⟨by repeat (first | (with_reducible first | exact HB.out | apply below_alloc | apply pw_below_drewN | apply below_drew1 | refine below_set ?_ GE256.out) | exact HB.out)⟩⟩
       ·rw [if_neg c29] at H
        have c29b0 : decide (a0_3 < (-4000)) = false := decide_eq_false c29
        clear c29
        (first | rw [c29b0] | (simp only [i64_w, i32_w]; rw [c29b0]) | skip)
        have H' := Aside0.mk H
        clear H
        go_wp2
        repeat (go_quiet (fail); try go_wp2)
        go_meet
        case rel => exact ⟨_, (decide (a0_3 > 4000)), (by first | rfl | (simp; done) | (simp [*]; done)), H', ⟨by have := HJ2.out; first | omega | exact Nat.le_refl _⟩, ⟨by (with_reducible repeat (first | refine blk_drewN ?_ _ | refine blk_drew ?_ | refine blk_alloc ?_ _)); exact BK256.out⟩, ⟨by repeat (first | (with_reducible first | exact HB.out | apply below_alloc | apply pw_below_drewN | apply below_drew1 | refine below_set ?_ GE256.out) | exact HB.out)⟩⟩
      case rest =>
       clear HC27
       try clear c1
       try clear c2
       try clear p2
       try clear c4
       try clear c6
       try clear c7
       try clear c7b0
       try clear c9
       try clear c9b0
       try clear c11
       try clear c11b0
       try clear c11b1
       try clear c12
       try clear c12b0
       try clear c12b1
       try clear c16
       try clear c16b0
       try clear c16b1
       try clear c19
       try clear c19b0
       try clear c19b1
       try clear c23
       try clear c23b0
       try clear c23b1
       try clear c29
       try clear c29b0
       try clear hcz10_0
       try clear hcz10_1
       try clear hcz10_2
       try clear hcz10_3
       try clear hcz13_0
       try clear hcz13_1
       try clear hcz13_2
       try clear hcz13_3
       try clear hcz14_0
       try clear hcz14_1
       try clear hcz14_2
       try clear hcz14_3
       try clear hcz15_0
       try clear hcz15_1
       try clear hcz15_2
       try clear hcz15_3
       try clear hcz18_0
       try clear hcz18_1
       try clear hcz18_2
       try clear hcz18_3
       try clear hcz22_0
       try clear hcz22_1
       try clear hcz22_2
       try clear hcz22_3
       try clear hcz25_0
       try clear hcz25_1
       try clear hcz25_2
       try clear hcz25_3
       try clear hcz28_0
       try clear hcz28_1
       try clear hcz28_2
       try clear hcz28_3
       try clear hcz8_0
       try clear hcz8_1
       try clear hcz8_2
       try clear hcz8_3
       try clear hfz10_0
       try clear hfz10_1
       try clear hfz10_2
       try clear hfz10_3
       try clear hfz13_0
       try clear hfz13_1
       try clear hfz13_2
       try clear hfz13_3
       try clear hfz14_0
       try clear hfz14_1
       try clear hfz14_2
       try clear hfz14_3
       try clear hfz15_0
       try clear hfz15_1
       try clear hfz15_2
       try clear hfz15_3
       try clear hfz18_0
       try clear hfz18_1
       try clear hfz18_2
       try clear hfz18_3
       try clear hfz22_0
       try clear hfz22_1
       try clear hfz22_2
       try clear hfz22_3
       try clear hfz25_0
       try clear hfz25_1
       try clear hfz25_2
       try clear hfz25_3
       try clear hfz28_0
       try clear hfz28_1
       try clear hfz28_2
       try clear hfz28_3
       try clear hfz8_0
       try clear hfz8_1
       try clear hfz8_2
       try clear hfz8_3
       try clear p2
       obtain ⟨kq, x65_26, rfl, HA, HJ26, BK256, HB⟩ := hcut
       cases kq with
       | zero => exact absurd HA.out (by simp [numeralref11_Pack.j1])
       | succ kj26 =>
        have H := HA.out
        clear HA
        simp only [numeralref11_Pack.j1] at H
        by_cases c30 : x65_26 = true
        ·subst c30
         have H1 : (some (0, 4)) = some (r1, r2) := by rw [if_pos rfl] at H; exact H
         clear H
         have H := H1
         clear H1
         simp only [Option.some.injEq, Prod.mk.injEq] at H
         obtain ⟨rfl, rfl⟩ := H
         go_wp2
         repeat (go_quiet (fail); try go_wp2)
         go_ret2
         exact ⟨by first | rfl | (simp [errW_none, errW_some] <;> rfl) | (simp [*, errW_none, errW_some] <;> rfl), by repeat (first | (with_reducible first | exact HB.out | apply below_alloc | apply pw_below_drewN | apply below_drew1 | refine below_set ?_ GE256.out) | exact HB.out)⟩
        ·replace c30 := Bool.eq_false_iff.mpr c30
         subst c30
         have H1 : (numeralref11_Pack.l0 kj26 a1 a0_2 a0_3 (IntKind.u64.wrap (t262)) a0_0 a0_1 a0_2 a0_3) = some (r1, r2) := by rw [if_neg (show ¬ (false = true) by decide)] at H; exact H
         clear H
         have H := H1
         clear H1
         have HC31 := Aside0.mk H
         clear H
         go_upto_block 2 with (fail)
         repeat (go_quiet (fail); go_upto_block 2 with (fail))
         go_cut [6, 7] (fun v6 v7 wc => ∃ (kq : Nat) (x6_30 : Int) (x7_30 : Int), v6 = .int .u64 x6_30 ∧ v7 = .int .i64 x7_30 ∧ Aside0 (numeralref11_Pack.j3 kq a1 x6_30 x7_30 (IntKind.u64.wrap (t262)) a0_0 a0_1 a0_2 a0_3 = some (r1, r2)) ∧ Aside0 (kq ≤ kj26) ∧ Aside0 (wc.heap[gb256]? = some (.cells #[.bool a0_0, .int .i64 a0_1, .int .u64 a0_2, .int .i64 a0_3] 46 (0, 0))) ∧ Aside0 (Below w.heap.size w wc))
         case first =>
          have H := HC31.out
          clear HC31
          have H' := Aside0.mk H
          clear H
          go_wp2
          repeat (go_quiet (fail); try go_wp2)
          go_loopg [6, 7] kj26 (fun kq v6 v7 w' => ∃ (x6_3 : Int) (x7_3 : Int), v6 = .int .u64 x6_3 ∧ v7 = .int .i64 x7_3 ∧ Aside0 (numeralref11_Pack.l0 kq a1 x6_3 x7_3 (IntKind.u64.wrap (t262)) a0_0 a0_1 a0_2 a0_3 = some (r1, r2)) ∧ Aside0 (kq ≤ kj26) ∧ Aside0 (w'.heap[gb256]? = some (.cells #[.bool a0_0, .int .i64 a0_1, .int .u64 a0_2, .int .i64 a0_3] 46 (0, 0))) ∧ Aside0 (Below w.heap.size w w'))
          case atStart => exact ⟨(a0_2), (a0_3), (by first | rfl | (simp; done) | (simp [*]; done)), (by first | rfl | (simp; done) | (simp [*]; done)), H', ⟨Nat.le_refl _⟩, ⟨by (with_reducible repeat (first | refine blk_drewN ?_ _ | refine blk_drew ?_ | refine blk_alloc ?_ _)); exact BK256.out⟩, ⟨by repeat (first | (with_reducible first | exact HB.out | apply below_alloc | apply pw_below_drewN | apply below_drew1 | refine below_set ?_ GE256.out) | exact HB.out)⟩⟩
          case round =>
           clear H'
           try clear c1
           try clear c2
           try clear p2
           try clear c3
           try clear c4
           try clear c6
           try clear c7
           try clear c7b0
           try clear c9
           try clear c9b0
           try clear c11
           try clear c11b0
           try clear c11b1
           try clear c12
           try clear c12b0
           try clear c12b1
           try clear c16
           try clear c16b0
           try clear c16b1
           try clear c19
           try clear c19b0
           try clear c19b1
           try clear c23
           try clear c23b0
           try clear c23b1
           try clear c29
           try clear c29b0
           try clear c30
           try clear hcz10_0
           try clear hcz10_1
           try clear hcz10_2
           try clear hcz10_3
           try clear hcz13_0
           try clear hcz13_1
           try clear hcz13_2
           try clear hcz13_3
           try clear hcz14_0
           try clear hcz14_1
           try clear hcz14_2
           try clear hcz14_3
           try clear hcz15_0
           try clear hcz15_1
           try clear hcz15_2
           try clear hcz15_3
           try clear hcz18_0
           try clear hcz18_1
           try clear hcz18_2
           try clear hcz18_3
           try clear hcz22_0
           try clear hcz22_1
           try clear hcz22_2
           try clear hcz22_3
           try clear hcz25_0
           try clear hcz25_1
           try clear hcz25_2
           try clear hcz25_3
           try clear hcz28_0
           try clear hcz28_1
           try clear hcz28_2
           try clear hcz28_3
           try clear hcz8_0
           try clear hcz8_1
           try clear hcz8_2
           try clear hcz8_3
           try clear hfz10_0
           try clear hfz10_1
           try clear hfz10_2
           try clear hfz10_3
           try clear hfz13_0
           try clear hfz13_1
           try clear hfz13_2
           try clear hfz13_3
           try clear hfz14_0
           try clear hfz14_1
           try clear hfz14_2
           try clear hfz14_3
           try clear hfz15_0
           try clear hfz15_1
           try clear hfz15_2
           try clear hfz15_3
           try clear hfz18_0
           try clear hfz18_1
           try clear hfz18_2
           try clear hfz18_3
           try clear hfz22_0
           try clear hfz22_1
           try clear hfz22_2
           try clear hfz22_3
           try clear hfz25_0
           try clear hfz25_1
           try clear hfz25_2
           try clear hfz25_3
           try clear hfz28_0
           try clear hfz28_1
           try clear hfz28_2
           try clear hfz28_3
           try clear hfz8_0
           try clear hfz8_1
           try clear hfz8_2
           try clear hfz8_3
           try clear p2
           obtain ⟨x6_3, x7_3, rfl, rfl, HA, HK3, BK256, HB⟩ := hrel
           cases gk with
           | zero => exact absurd HA.out (by simp [numeralref11_Pack.l0])
           | succ k3 =>
            have H := HA.out
            clear HA
            simp only [numeralref11_Pack.l0] at H
            obtain ⟨ji32, hji32⟩ : ∃ j_ : Int, (Go.bits .and .u64 x6_3 1) = j_ := ⟨_, rfl⟩
            replace H : (if (ji32) = 0 then (if 0 ≤ (IntKind.u64.wrap ((IntKind.u64.wrap (t262)) + 1)) then (if (shr .u64 x6_3 (IntKind.u64.wrap ((IntKind.u64.wrap (t262)) + 1))) = 0 then ((numeralref11_Low.f a1).bind fun t263 => (if x7_3 < t263 then (numeralref11_Pack.l0 k3 a1 (x6_3 / 2) (wrap64 (x7_3 + 1)) (IntKind.u64.wrap (t262)) a0_0 a0_1 a0_2 a0_3) else (numeralref11_Pack.j3 k3 a1 x6_3 x7_3 (IntKind.u64.wrap (t262)) a0_0 a0_1 a0_2 a0_3))) else (numeralref11_Pack.l0 k3 a1 (x6_3 / 2) (wrap64 (x7_3 + 1)) (IntKind.u64.wrap (t262)) a0_0 a0_1 a0_2 a0_3)) else (none)) else (numeralref11_Pack.j3 k3 a1 x6_3 x7_3 (IntKind.u64.wrap (t262)) a0_0 a0_1 a0_2 a0_3)) = some (r1, r2) := by first | (rw [hji32] at H; exact H) | (simp only [hji32] at H ⊢; exact H)
            by_cases c33 : (ji32) = 0
            ·rw [if_pos c33] at H
             have c33b0 : ((ji32) == 0) = true := beq_iff_eq.mpr c33
             have c33b1 : ((ji32) != 0) = false := bne_eq_false_iff_eq.mpr c33
             clear c33
             (first | rw [c33b0] | (simp only [i64_w, i32_w]; rw [c33b0]) | skip)
             obtain ⟨ji34, hji34⟩ : ∃ j_ : Int, (IntKind.u64.wrap ((IntKind.u64.wrap (t262)) + 1)) = j_ := ⟨_, rfl⟩
             replace H : (if 0 ≤ (ji34) then (if (shr .u64 x6_3 (ji34)) = 0 then ((numeralref11_Low.f a1).bind fun t263 => (if x7_3 < t263 then (numeralref11_Pack.l0 k3 a1 (x6_3 / 2) (wrap64 (x7_3 + 1)) (IntKind.u64.wrap (t262)) a0_0 a0_1 a0_2 a0_3) else (numeralref11_Pack.j3 k3 a1 x6_3 x7_3 (IntKind.u64.wrap (t262)) a0_0 a0_1 a0_2 a0_3))) else (numeralref11_Pack.l0 k3 a1 (x6_3 / 2) (wrap64 (x7_3 + 1)) (IntKind.u64.wrap (t262)) a0_0 a0_1 a0_2 a0_3)) else (none)) = some (r1, r2) := by first | (rw [hji34] at H; exact H) | (simp only [hji34] at H ⊢; exact H)
             by_cases c35 : 0 ≤ (ji34)
             ·rw [if_pos c35] at H
              have c35b0 := eq_true c35
              have c35b1 : decide (0 ≤ (ji34)) = true := decide_eq_true c35
              clear c35
              obtain ⟨ji36, hji36⟩ : ∃ j_ : Int, (shr .u64 x6_3 (ji34)) = j_ := ⟨_, rfl⟩
              replace H : (if (ji36) = 0 then ((numeralref11_Low.f a1).bind fun t263 => (if x7_3 < t263 then (numeralref11_Pack.l0 k3 a1 (x6_3 / 2) (wrap64 (x7_3 + 1)) (IntKind.u64.wrap (t262)) a0_0 a0_1 a0_2 a0_3) else (numeralref11_Pack.j3 k3 a1 x6_3 x7_3 (IntKind.u64.wrap (t262)) a0_0 a0_1 a0_2 a0_3))) else (numeralref11_Pack.l0 k3 a1 (x6_3 / 2) (wrap64 (x7_3 + 1)) (IntKind.u64.wrap (t262)) a0_0 a0_1 a0_2 a0_3)) = some (r1, r2) := by first | (rw [hji36] at H; exact H) | (simp only [hji36] at H ⊢; exact H)
              have hji36_ : (x6_3 / 2 ^ min (ji34).toNat 64) = ji36 := hji36
              have hji36z : (ji34) ≤ 64 → (x6_3 / 2 ^ (ji34).toNat) = ji36 := shr_small hji36
              by_cases c37 : (ji36) = 0
              ·rw [if_pos c37] at H
               have c37b0 : ((ji36) == 0) = true := beq_iff_eq.mpr c37
               have c37b1 : ((ji36) != 0) = false := bne_eq_false_iff_eq.mpr c37
               clear c37
               replace H := Option.bind_eq_some_iff.mp H
               obtain ⟨t263, A380, H⟩ := H
               replace H : (if x7_3 < t263 then (numeralref11_Pack.l0 k3 a1 (x6_3 / 2) (wrap64 (x7_3 + 1)) (IntKind.u64.wrap (t262)) a0_0 a0_1 a0_2 a0_3) else (numeralref11_Pack.j3 k3 a1 x6_3 x7_3 (IntKind.u64.wrap (t262)) a0_0 a0_1 a0_2 a0_3)) = some (r1, r2) := H
               have A38 := Aside0.mk A380
               clear A380
               by_cases c39 : x7_3 < t263
               ·rw [if_pos c39] at H
                have c39b0 : decide (x7_3 < t263) = true := decide_eq_true c39
                clear c39
                have H' := Aside0.mk H
                clear H
                go_wp2_with (first | (go_at_call 43; (with_reducible refine (numeralref11_Low.calls a1 t263 _ A38.out).mono ?_); rintro e w' ⟨rfl, ⟨nd, rfl⟩⟩; (try first | exact ⟨rfl, _, World.drewN_drewN _ _ _⟩ | exact ⟨rfl, _, Eq.trans (World.drewN_drewN _ _ _) (congrArg (World.drewN _) (Nat.add_assoc _ _ _))⟩)))
                repeat (go_quiet (first | (go_at_call 43; (with_reducible refine (numeralref11_Low.calls a1 t263 _ A38.out).mono ?_); rintro e w' ⟨rfl, ⟨nd, rfl⟩⟩; (try first | exact ⟨rfl, _, World.drewN_drewN _ _ _⟩ | exact ⟨rfl, _, Eq.trans (World.drewN_drewN _ _ _) (congrArg (World.drewN _) (Nat.add_assoc _ _ _))⟩))); try go_wp2_with (first | (go_at_call 43; (with_reducible refine (numeralref11_Low.calls a1 t263 _ A38.out).mono ?_); rintro e w' ⟨rfl, ⟨nd, rfl⟩⟩; (try first | exact ⟨rfl, _, World.drewN_drewN _ _ _⟩ | exact ⟨rfl, _, Eq.trans (World.drewN_drewN _ _ _) (congrArg (World.drewN _) (Nat.add_assoc _ _ _))⟩))))
                go_roundg k3
                case measure => have := HJ2.out; have := HJ26.out; have := HK3.out; omega
                case rel => exact ⟨(x6_3 / 2), (wrap64 (x7_3 + 1)), (by first | rfl | (simp; done) | (simp [*]; done)), (by first | rfl | (simp; done) | (simp [*]; done)), H', ⟨by have := HJ2.out; have := HJ26.out; have := HK3.out; omega⟩, ⟨by (with_reducible repeat (first | refine blk_drewN ?_ _ | refine blk_drew ?_ | refine blk_alloc ?_ _)); exact BK256.out⟩, ⟨by repeat (first | (with_reducible first | exact HB.out | apply below_alloc | apply pw_below_drewN | apply below_drew1 | refine below_set ?_ GE256.out) | exact HB.out)⟩⟩
               ·rw [if_neg c39] at H
                have c39b0 : decide (x7_3 < t263) = false := decide_eq_false c39
                clear c39
                have H' := Aside0.mk H
                clear H
                go_wp2_with (first | (go_at_call 43; (with_reducible refine (numeralref11_Low.calls a1 t263 _ A38.out).mono ?_); rintro e w' ⟨rfl, ⟨nd, rfl⟩⟩; (try first | exact ⟨rfl, _, World.drewN_drewN _ _ _⟩ | exact ⟨rfl, _, Eq.trans (World.drewN_drewN _ _ _) (congrArg (World.drewN _) (Nat.add_assoc _ _ _))⟩)))
                repeat (go_quiet (first | (go_at_call 43; (with_reducible refine (numeralref11_Low.calls a1 t263 _ A38.out).mono ?_); rintro e w' ⟨rfl, ⟨nd, rfl⟩⟩; (try first | exact ⟨rfl, _, World.drewN_drewN _ _ _⟩ | exact ⟨rfl, _, Eq.trans (World.drewN_drewN _ _ _) (congrArg (World.drewN _) (Nat.add_assoc _ _ _))⟩))); try go_wp2_with (first | (go_at_call 43; (with_reducible refine (numeralref11_Low.calls a1 t263 _ A38.out).mono ?_); rintro e w' ⟨rfl, ⟨nd, rfl⟩⟩; (try first | exact ⟨rfl, _, World.drewN_drewN _ _ _⟩ | exact ⟨rfl, _, Eq.trans (World.drewN_drewN _ _ _) (congrArg (World.drewN _) (Nat.add_assoc _ _ _))⟩))))
                go_meet
                case rel => exact ⟨_, (x6_3), (x7_3), (by first | rfl | (simp; done) | (simp [*]; done)), (by first | rfl | (simp; done) | (simp [*]; done)), H', ⟨by have := HJ2.out; have := HJ26.out; have := HK3.out; first | omega | exact Nat.le_refl _⟩, ⟨by (with_reducible repeat (first | refine blk_drewN ?_ _ | refine blk_drew ?_ | refine blk_alloc ?_ _)); exact BK256.out⟩, ⟨by repeat (first | (with_reducible first | exact HB.out | apply below_alloc | apply pw_below_drewN | apply below_drew1 | refine below_set ?_ GE256.out) | exact HB.out)⟩⟩
              ·rw [if_neg c37] at H
               have c37b0 : ((ji36) == 0) = false := beq_eq_false_iff_ne.mpr c37
               have c37b1 : ((ji36) != 0) = true := bne_iff_ne.mpr c37
               have H' := Aside0.mk H
               clear H
               go_wp2
               repeat (go_quiet (fail); try go_wp2)
               go_roundg k3
               case measure => have := HJ2.out; have := HJ26.out; have := HK3.out; omega
               case rel => exact ⟨(x6_3 / 2), (wrap64 (x7_3 + 1)), (by first | rfl | (simp; done) | (simp [*]; done)), (by first | rfl | (simp; done) | (simp [*]; done)), H', ⟨by have := HJ2.out; have := HJ26.out; have := HK3.out; omega⟩, ⟨by (with_reducible repeat (first | refine blk_drewN ?_ _ | refine blk_drew ?_ | refine blk_alloc ?_ _)); exact BK256.out⟩, ⟨by repeat (first | (with_reducible first | exact HB.out | apply below_alloc | apply pw_below_drewN | apply below_drew1 | refine below_set ?_ GE256.out) | exact HB.out)⟩⟩
             ·rw [if_neg c35] at H
              exact absurd H (by simp)
            ·rw [if_neg c33] at H
             have c33b0 : ((ji32) == 0) = false := beq_eq_false_iff_ne.mpr c33
             have c33b1 : ((ji32) != 0) = true := bne_iff_ne.mpr c33
             (first | rw [c33b0] | (simp only [i64_w, i32_w]; rw [c33b0]) | skip)
             have H' := Aside0.mk H
             clear H
             go_wp2
             repeat (go_quiet (fail); try go_wp2)
             go_meet
             case rel => exact ⟨_, (x6_3), (x7_3), (by first | rfl | (simp; done) | (simp [*]; done)), (by first | rfl | (simp; done) | (simp [*]; done)), H', ⟨by have := HJ2.out; have := HJ26.out; have := HK3.out; first | omega | exact Nat.le_refl _⟩, ⟨by (with_reducible repeat (first | refine blk_drewN ?_ _ | refine blk_drew ?_ | refine blk_alloc ?_ _)); exact BK256.out⟩, ⟨by repeat (first | (with_reducible first | exact HB.out | apply below_alloc | apply pw_below_drewN | apply below_drew1 | refine below_set ?_ GE256.out) | exact HB.out)⟩⟩
         case rest =>
          clear HC31
          try clear c1
          try clear c2
          try clear p2
          try clear c3
          try clear c4
          try clear c6
          try clear p6
          try clear c7
          try clear c7b0
          try clear c9
          try clear c9b0
          try clear c11
          try clear c11b0
          try clear c11b1
          try clear c12
          try clear c12b0
          try clear c12b1
          try clear c16
          try clear c16b0
          try clear c16b1
          try clear c19
          try clear c19b0
          try clear c19b1
          try clear c23
          try clear c23b0
          try clear c23b1
          try clear c29
          try clear c29b0
          try clear c30
          try clear c33
          try clear c33b0
          try clear c33b1
          try clear c35
          try clear c35b0
          try clear c35b1
          try clear c37
          try clear c37b0
          try clear c37b1
          try clear c39
          try clear c39b0
          try clear hcz10_0
          try clear hcz10_1
          try clear hcz10_2
          try clear hcz10_3
          try clear hcz13_0
          try clear hcz13_1
          try clear hcz13_2
          try clear hcz13_3
          try clear hcz14_0
          try clear hcz14_1
          try clear hcz14_2
          try clear hcz14_3
          try clear hcz15_0
          try clear hcz15_1
          try clear hcz15_2
          try clear hcz15_3
          try clear hcz18_0
          try clear hcz18_1
          try clear hcz18_2
          try clear hcz18_3
          try clear hcz22_0
          try clear hcz22_1
          try clear hcz22_2
          try clear hcz22_3
          try clear hcz25_0
          try clear hcz25_1
          try clear hcz25_2
          try clear hcz25_3
          try clear hcz28_0
          try clear hcz28_1
          try clear hcz28_2
          try clear hcz28_3
          try clear hcz8_0
          try clear hcz8_1
          try clear hcz8_2
          try clear hcz8_3
          try clear hfz10_0
          try clear hfz10_1
          try clear hfz10_2
          try clear hfz10_3
          try clear hfz13_0
          try clear hfz13_1
          try clear hfz13_2
          try clear hfz13_3
          try clear hfz14_0
          try clear hfz14_1
          try clear hfz14_2
          try clear hfz14_3
          try clear hfz15_0
          try clear hfz15_1
          try clear hfz15_2
          try clear hfz15_3
          try clear hfz18_0
          try clear hfz18_1
          try clear hfz18_2
          try clear hfz18_3
          try clear hfz22_0
          try clear hfz22_1
          try clear hfz22_2
          try clear hfz22_3
          try clear hfz25_0
          try clear hfz25_1
          try clear hfz25_2
          try clear hfz25_3
          try clear hfz28_0
          try clear hfz28_1
          try clear hfz28_2
          try clear hfz28_3
          try clear hfz8_0
          try clear hfz8_1
          try clear hfz8_2
          try clear hfz8_3
          try clear p2
          obtain ⟨kq, x6_30, x7_30, rfl, rfl, HA, HJ30, BK256, HB⟩ := hcut
          cases kq with
          | zero => exact absurd HA.out (by simp [numeralref11_Pack.j3])
          | succ kj30 =>
           have H := HA.out
           clear HA
           simp only [numeralref11_Pack.j3] at H
           have HC40 := Aside0.mk H
           clear H
           go_upto_block 4 with (fail)
           repeat (go_quiet (fail); go_upto_block 4 with (fail))
           go_cut [6, 7] (fun v6 v7 wc => ∃ (kq : Nat) (x6_39 : Int) (x7_39 : Int), v6 = .int .u64 x6_39 ∧ v7 = .int .i64 x7_39 ∧ Aside0 (numeralref11_Pack.j5 kq a1 x6_39 x7_39 (IntKind.u64.wrap (t262)) a0_0 a0_1 a0_2 a0_3 = some (r1, r2)) ∧ Aside0 (kq ≤ kj30) ∧ Aside0 (wc.heap[gb256]? = some (.cells #[.bool a0_0, .int .i64 a0_1, .int .u64 a0_2, .int .i64 a0_3] 46 (0, 0))) ∧ Aside0 (Below w.heap.size w wc))
           case first =>
            have H := HC40.out
            clear HC40
            have H' := Aside0.mk H
            clear H
            go_wp2
            repeat (go_quiet (fail); try go_wp2)
            go_loopg [6, 7] kj30 (fun kq v6 v7 w' => ∃ (x6_4 : Int) (x7_4 : Int), v6 = .int .u64 x6_4 ∧ v7 = .int .i64 x7_4 ∧ Aside0 (numeralref11_Pack.l1 kq a1 x6_4 x7_4 (IntKind.u64.wrap (t262)) a0_0 a0_1 a0_2 a0_3 = some (r1, r2)) ∧ Aside0 (kq ≤ kj30) ∧ Aside0 (w'.heap[gb256]? = some (.cells #[.bool a0_0, .int .i64 a0_1, .int .u64 a0_2, .int .i64 a0_3] 46 (0, 0))) ∧ Aside0 (Below w.heap.size w w'))
            case atStart => exact ⟨(x6_30), (x7_30), (by first | rfl | (simp; done) | (simp [*]; done)), (by first | rfl | (simp; done) | (simp [*]; done)), H', ⟨Nat.le_refl _⟩, ⟨by (with_reducible repeat (first | refine blk_drewN ?_ _ | refine blk_drew ?_ | refine blk_alloc ?_ _)); exact BK256.out⟩, ⟨by repeat (first | (with_reducible first | exact HB.out | apply below_alloc | apply pw_below_drewN | apply below_drew1 | refine below_set ?_ GE256.out) | exact HB.out)⟩⟩
            case round =>
             clear H'
             try clear c1
             try clear c2
             try clear p2
             try clear c3
             try clear c4
             try clear c6
             try clear p6
             try clear c7
             try clear c7b0
             try clear c9
             try clear c9b0
             try clear c11
             try clear c11b0
             try clear c11b1
             try clear c12
             try clear c12b0
             try clear c12b1
             try clear c16
             try clear c16b0
             try clear c16b1
             try clear c19
             try clear c19b0
             try clear c19b1
             try clear c23
             try clear c23b0
             try clear c23b1
             try clear c29
             try clear c29b0
             try clear c30
             try clear c33
             try clear c33b0
             try clear c33b1
             try clear c35
             try clear c35b0
             try clear c35b1
             try clear c37
             try clear c37b0
             try clear c37b1
             try clear c39
             try clear c39b0
             try clear hcz10_0
             try clear hcz10_1
             try clear hcz10_2
             try clear hcz10_3
             try clear hcz13_0
             try clear hcz13_1
             try clear hcz13_2
             try clear hcz13_3
             try clear hcz14_0
             try clear hcz14_1
             try clear hcz14_2
             try clear hcz14_3
             try clear hcz15_0
             try clear hcz15_1
             try clear hcz15_2
             try clear hcz15_3
             try clear hcz18_0
             try clear hcz18_1
             try clear hcz18_2
             try clear hcz18_3
             try clear hcz22_0
             try clear hcz22_1
             try clear hcz22_2
             try clear hcz22_3
             try clear hcz25_0
             try clear hcz25_1
             try clear hcz25_2
             try clear hcz25_3
             try clear hcz28_0
             try clear hcz28_1
             try clear hcz28_2
             try clear hcz28_3
             try clear hcz8_0
             try clear hcz8_1
             try clear hcz8_2
             try clear hcz8_3
             try clear hfz10_0
             try clear hfz10_1
             try clear hfz10_2
             try clear hfz10_3
             try clear hfz13_0
             try clear hfz13_1
             try clear hfz13_2
             try clear hfz13_3
             try clear hfz14_0
             try clear hfz14_1
             try clear hfz14_2
             try clear hfz14_3
             try clear hfz15_0
             try clear hfz15_1
             try clear hfz15_2
             try clear hfz15_3
             try clear hfz18_0
             try clear hfz18_1
             try clear hfz18_2
             try clear hfz18_3
             try clear hfz22_0
             try clear hfz22_1
             try clear hfz22_2
             try clear hfz22_3
             try clear hfz25_0
             try clear hfz25_1
             try clear hfz25_2
             try clear hfz25_3
             try clear hfz28_0
             try clear hfz28_1
             try clear hfz28_2
             try clear hfz28_3
             try clear hfz8_0
             try clear hfz8_1
             try clear hfz8_2
             try clear hfz8_3
             try clear p2
             try clear p6
             obtain ⟨x6_4, x7_4, rfl, rfl, HA, HK4, BK256, HB⟩ := hrel
             cases gk with
             | zero => exact absurd HA.out (by simp [numeralref11_Pack.l1])
             | succ k4 =>
              have H := HA.out
              clear HA
              simp only [numeralref11_Pack.l1] at H
              by_cases c41 : 0 ≤ (IntKind.u64.wrap (t262))
              ·rw [if_pos c41] at H
               have c41b0 := eq_true c41
               have c41b1 : decide (0 ≤ (IntKind.u64.wrap (t262))) = true := decide_eq_true c41
               clear c41
               obtain ⟨ji42, hji42⟩ : ∃ j_ : Int, (shr .u64 x6_4 (IntKind.u64.wrap (t262))) = j_ := ⟨_, rfl⟩
               replace H : (if (ji42) = 0 then ((numeralref11_Low.f a1).bind fun t264 => (if x7_4 > t264 then (numeralref11_Pack.l1 k4 a1 (IntKind.u64.wrap (x6_4 * 2)) (wrap64 (x7_4 - 1)) (IntKind.u64.wrap (t262)) a0_0 a0_1 a0_2 a0_3) else (numeralref11_Pack.j5 k4 a1 x6_4 x7_4 (IntKind.u64.wrap (t262)) a0_0 a0_1 a0_2 a0_3))) else (numeralref11_Pack.j5 k4 a1 x6_4 x7_4 (IntKind.u64.wrap (t262)) a0_0 a0_1 a0_2 a0_3)) = some (r1, r2) := by first | (rw [hji42] at H; exact H) | (simp only [hji42] at H ⊢; exact H)
               have hji42_ : (x6_4 / 2 ^ min (IntKind.u64.wrap (t262)).toNat 64) = ji42 := hji42
               have hji42z : (IntKind.u64.wrap (t262)) ≤ 64 → (x6_4 / 2 ^ (IntKind.u64.wrap (t262)).toNat) = ji42 := shr_small hji42
               by_cases c43 : (ji42) = 0
               ·rw [if_pos c43] at H
                have c43b0 : ((ji42) == 0) = true := beq_iff_eq.mpr c43
                have c43b1 : ((ji42) != 0) = false := bne_eq_false_iff_eq.mpr c43
                clear c43
                (first | rw [c43b0] | (simp only [i64_w, i32_w]; rw [c43b0]) | skip)
                replace H := Option.bind_eq_some_iff.mp H
                obtain ⟨t264, A440, H⟩ := H
                replace H : (if x7_4 > t264 then (numeralref11_Pack.l1 k4 a1 (IntKind.u64.wrap (x6_4 * 2)) (wrap64 (x7_4 - 1)) (IntKind.u64.wrap (t262)) a0_0 a0_1 a0_2 a0_3) else (numeralref11_Pack.j5 k4 a1 x6_4 x7_4 (IntKind.u64.wrap (t262)) a0_0 a0_1 a0_2 a0_3)) = some (r1, r2) := H
                have A44 := Aside0.mk A440
                clear A440
                by_cases c45 : x7_4 > t264
                ·rw [if_pos c45] at H
                 have c45b0 : decide (t264 < x7_4) = true := decide_eq_true c45
                 clear c45
                 have H' := Aside0.mk H
                 clear H
                 go_wp2_with (first | (go_at_call 43; (with_reducible refine (numeralref11_Low.calls a1 t264 _ A44.out).mono ?_); rintro e w' ⟨rfl, ⟨nd, rfl⟩⟩; (try first | exact ⟨rfl, _, World.drewN_drewN _ _ _⟩ | exact ⟨rfl, _, Eq.trans (World.drewN_drewN _ _ _) (congrArg (World.drewN _) (Nat.add_assoc _ _ _))⟩)))
                 repeat (go_quiet (first | (go_at_call 43; (with_reducible refine (numeralref11_Low.calls a1 t264 _ A44.out).mono ?_); rintro e w' ⟨rfl, ⟨nd, rfl⟩⟩; (try first | exact ⟨rfl, _, World.drewN_drewN _ _ _⟩ | exact ⟨rfl, _, Eq.trans (World.drewN_drewN _ _ _) (congrArg (World.drewN _) (Nat.add_assoc _ _ _))⟩))); try go_wp2_with (first | (go_at_call 43; (with_reducible refine (numeralref11_Low.calls a1 t264 _ A44.out).mono ?_); rintro e w' ⟨rfl, ⟨nd, rfl⟩⟩; (try first | exact ⟨rfl, _, World.drewN_drewN _ _ _⟩ | exact ⟨rfl, _, Eq.trans (World.drewN_drewN _ _ _) (congrArg (World.drewN _) (Nat.add_assoc _ _ _))⟩))))
                 go_roundg k4
                 case measure => have := HJ2.out; have := HJ26.out; have := HJ30.out; have := HK4.out; omega
                 case rel => exact ⟨(IntKind.u64.wrap (x6_4 * 2)), (wrap64 (x7_4 - 1)), (by first | rfl | (simp; done) | (simp [*]; done)), (by first | rfl | (simp; done) | (simp [*]; done)), H', ⟨by have := HJ2.out; have := HJ26.out; have := HJ30.out; have := HK4.out; omega⟩, ⟨by (with_reducible repeat (first | refine blk_drewN ?_ _ | refine blk_drew ?_ | refine blk_alloc ?_ _)); exact BK256.out⟩, ⟨by repeat (first | (with_reducible first | exact HB.out | apply below_alloc | apply pw_below_drewN | apply below_drew1 | refine below_set ?_ GE256.out) | exact HB.out)⟩⟩
                ·rw [if_neg c45] at H
                 have c45b0 : decide (t264 < x7_4) = false := decide_eq_false c45
                 clear c45
                 have H' := Aside0.mk H
                 clear H
                 go_wp2_with (first | (go_at_call 43; (with_reducible refine (numeralref11_Low.calls a1 t264 _ A44.out).mono ?_); rintro e w' ⟨rfl, ⟨nd, rfl⟩⟩; (try first | exact ⟨rfl, _, World.drewN_drewN _ _ _⟩ | exact ⟨rfl, _, Eq.trans (World.drewN_drewN _ _ _) (congrArg (World.drewN _) (Nat.add_assoc _ _ _))⟩)))
                 repeat (go_quiet (first | (go_at_call 43; (with_reducible refine (numeralref11_Low.calls a1 t264 _ A44.out).mono ?_); rintro e w' ⟨rfl, ⟨nd, rfl⟩⟩; (try first | exact ⟨rfl, _, World.drewN_drewN _ _ _⟩ | exact ⟨rfl, _, Eq.trans (World.drewN_drewN _ _ _) (congrArg (World.drewN _) (Nat.add_assoc _ _ _))⟩))); try go_wp2_with (first | (go_at_call 43; (with_reducible refine (numeralref11_Low.calls a1 t264 _ A44.out).mono ?_); rintro e w' ⟨rfl, ⟨nd, rfl⟩⟩; (try first | exact ⟨rfl, _, World.drewN_drewN _ _ _⟩ | exact ⟨rfl, _, Eq.trans (World.drewN_drewN _ _ _) (congrArg (World.drewN _) (Nat.add_assoc _ _ _))⟩))))
                 go_meet
                 case rel => exact ⟨_, (x6_4), (x7_4), (by first | rfl | (simp; done) | (simp [*]; done)), (by first | rfl | (simp; done) | (simp [*]; done)), H', ⟨by have := HJ2.out; have := HJ26.out; have := HJ30.out; have := HK4.out; first | omega | exact Nat.le_refl _⟩, ⟨by (with_reducible repeat (first | refine blk_drewN ?_ _ | refine blk_drew ?_ | refine blk_alloc ?_ _)); exact BK256.out⟩, ⟨by repeat (first | (with_reducible first | exact HB.out | apply below_alloc | apply pw_below_drewN | apply below_drew1 | refine below_set ?_ GE256.out) | exact HB.out)⟩⟩
               ·rw [if_neg c43] at H
                have c43b0 : ((ji42) == 0) = false := beq_eq_false_iff_ne.mpr c43
                have c43b1 : ((ji42) != 0) = true := bne_iff_ne.mpr c43
                (first | rw [c43b0] | (simp only [i64_w, i32_w]; rw [c43b0]) | skip)
                have H' := Aside0.mk H
                clear H
                go_wp2
                repeat (go_quiet (fail); try go_wp2)
                go_meet
                case rel => exact ⟨_, (x6_4), (x7_4), (by first | rfl | (simp; done) | (simp [*]; done)), (by first | rfl | (simp; done) | (simp [*]; done)), H', ⟨by have := HJ2.out; have := HJ26.out; have := HJ30.out; have := HK4.out; first | omega | exact Nat.le_refl _⟩, ⟨by (with_reducible repeat (first | refine blk_drewN ?_ _ | refine blk_drew ?_ | refine blk_alloc ?_ _)); exact BK256.out⟩, ⟨by repeat (first | (with_reducible first | exact HB.out | apply below_alloc | apply pw_below_drewN | apply below_drew1 | refine below_set ?_ GE256.out) | exact HB.out)⟩⟩
              ·rw [if_neg c41] at H
               exact absurd H (by simp)
           case rest =>
            clear HC40
            try clear c1
            try clear c2
            try clear p2
            try clear c3
            try clear c4
            try clear c6
            try clear p6
            try clear c7
            try clear c7b0
            try clear c9
            try clear c9b0
            try clear c11
            try clear c11b0
            try clear c11b1
            try clear c12
            try clear c12b0
            try clear c12b1
            try clear c16
            try clear c16b0
            try clear c16b1
            try clear c19
            try clear c19b0
            try clear c19b1
            try clear c23
            try clear c23b0
            try clear c23b1
            try clear c29
            try clear c29b0
            try clear c30
            try clear c33
            try clear c33b0
            try clear c33b1
            try clear c35
            try clear c35b0
            try clear c35b1
            try clear c37
            try clear c37b0
            try clear c37b1
            try clear c39
            try clear c39b0
            try clear c41
            try clear c41b0
            try clear c41b1
            try clear c43
            try clear c43b0
            try clear c43b1
            try clear c45
            try clear c45b0
            try clear hcz10_0
            try clear hcz10_1
            try clear hcz10_2
            try clear hcz10_3
            try clear hcz13_0
            try clear hcz13_1
            try clear hcz13_2
            try clear hcz13_3
            try clear hcz14_0
            try clear hcz14_1
            try clear hcz14_2
            try clear hcz14_3
            try clear hcz15_0
            try clear hcz15_1
            try clear hcz15_2
            try clear hcz15_3
            try clear hcz18_0
            try clear hcz18_1
            try clear hcz18_2
            try clear hcz18_3
            try clear hcz22_0
            try clear hcz22_1
            try clear hcz22_2
            try clear hcz22_3
            try clear hcz25_0
            try clear hcz25_1
            try clear hcz25_2
            try clear hcz25_3
            try clear hcz28_0
            try clear hcz28_1
            try clear hcz28_2
            try clear hcz28_3
            try clear hcz8_0
            try clear hcz8_1
            try clear hcz8_2
            try clear hcz8_3
            try clear hfz10_0
            try clear hfz10_1
            try clear hfz10_2
            try clear hfz10_3
            try clear hfz13_0
            try clear hfz13_1
            try clear hfz13_2
            try clear hfz13_3
            try clear hfz14_0
            try clear hfz14_1
            try clear hfz14_2
            try clear hfz14_3
            try clear hfz15_0
            try clear hfz15_1
            try clear hfz15_2
            try clear hfz15_3
            try clear hfz18_0
            try clear hfz18_1
            try clear hfz18_2
            try clear hfz18_3
            try clear hfz22_0
            try clear hfz22_1
            try clear hfz22_2
            try clear hfz22_3
            try clear hfz25_0
            try clear hfz25_1
            try clear hfz25_2
            try clear hfz25_3
            try clear hfz28_0
            try clear hfz28_1
            try clear hfz28_2
            try clear hfz28_3
            try clear hfz8_0
            try clear hfz8_1
            try clear hfz8_2
            try clear hfz8_3
            try clear p2
            try clear p6
            obtain ⟨kq, x6_39, x7_39, rfl, rfl, HA, HJ39, BK256, HB⟩ := hcut
            cases kq with
            | zero => exact absurd HA.out (by simp [numeralref11_Pack.j5])
            | succ kj39 =>
             have H := HA.out
             clear HA
             simp only [numeralref11_Pack.j5] at H
             replace H := Option.bind_eq_some_iff.mp H
             obtain ⟨t265, A460, H⟩ := H
             replace H : (if 0 ≤ (IntKind.u64.wrap ((IntKind.u64.wrap (t262)) + 1)) then (if (shr .u64 x6_39 (IntKind.u64.wrap ((IntKind.u64.wrap (t262)) + 1))) = 0 then ((numeralref11_Low.f a1).bind fun t266 => (if x7_39 < t266 then (numeralref11_Pack.j6 kj39 a1 x6_39 (IntKind.u64.wrap (t262)) (wrap64 ((wrap64 (x7_39 - t265)) + 1)) true a0_0 a0_1 a0_2 a0_3) else (if 0 ≤ (IntKind.u64.wrap (t262)) then (if (shr .u64 x6_39 (IntKind.u64.wrap (t262))) = 0 then (numeralref11_Pack.j6 kj39 a1 x6_39 (IntKind.u64.wrap (t262)) (wrap64 ((wrap64 (x7_39 - t265)) + 1)) false a0_0 a0_1 a0_2 a0_3) else ((numeralref11_Top.f a1).bind fun t267 => (numeralref11_Pack.j6 kj39 a1 x6_39 (IntKind.u64.wrap (t262)) (wrap64 ((wrap64 (x7_39 - t265)) + 1)) (decide ((wrap64 ((wrap64 (x7_39 - t265)) + 1)) ≥ (wrap64 (t267)))) a0_0 a0_1 a0_2 a0_3))) else (none)))) else (numeralref11_Pack.j6 kj39 a1 x6_39 (IntKind.u64.wrap (t262)) (wrap64 ((wrap64 (x7_39 - t265)) + 1)) true a0_0 a0_1 a0_2 a0_3)) else (none)) = some (r1, r2) := H
             have A46 := Aside0.mk A460
             clear A460
             have HC47 := Aside0.mk H
             clear H
             go_upto_region 23 with (first | (go_at_call 43; (with_reducible refine (numeralref11_Low.calls a1 t265 _ A46.out).mono ?_); rintro e w' ⟨rfl, ⟨nd, rfl⟩⟩; (try first | exact ⟨rfl, _, World.drewN_drewN _ _ _⟩ | exact ⟨rfl, _, Eq.trans (World.drewN_drewN _ _ _) (congrArg (World.drewN _) (Nat.add_assoc _ _ _))⟩)))
             repeat (go_quiet (first | (go_at_call 43; (with_reducible refine (numeralref11_Low.calls a1 t265 _ A46.out).mono ?_); rintro e w' ⟨rfl, ⟨nd, rfl⟩⟩; (try first | exact ⟨rfl, _, World.drewN_drewN _ _ _⟩ | exact ⟨rfl, _, Eq.trans (World.drewN_drewN _ _ _) (congrArg (World.drewN _) (Nat.add_assoc _ _ _))⟩))); go_upto_region 23 with (first | (go_at_call 43; (with_reducible refine (numeralref11_Low.calls a1 t265 _ A46.out).mono ?_); rintro e w' ⟨rfl, ⟨nd, rfl⟩⟩; (try first | exact ⟨rfl, _, World.drewN_drewN _ _ _⟩ | exact ⟨rfl, _, Eq.trans (World.drewN_drewN _ _ _) (congrArg (World.drewN _) (Nat.add_assoc _ _ _))⟩))))
             (try simp only [Act.put, List.setIfInBounds_toArray, List.set_cons_zero, List.set_cons_succ])
             go_cut [128] (fun v128 wc => ∃ (kq : Nat) (x128_46 : Bool), v128 = .bool x128_46 ∧ Aside0 (numeralref11_Pack.j6 kq a1 x6_39 (IntKind.u64.wrap (t262)) (wrap64 ((wrap64 (x7_39 - t265)) + 1)) x128_46 a0_0 a0_1 a0_2 a0_3 = some (r1, r2)) ∧ Aside0 (kq ≤ kj39) ∧ Aside0 (wc.heap[gb256]? = some (.cells #[.bool a0_0, .int .i64 a0_1, .int .u64 a0_2, .int .i64 a0_3] 46 (0, 0))) ∧ Aside0 (Below w.heap.size w wc))
             case first =>
              have H := HC47.out
              clear HC47
              obtain ⟨ji48, hji48⟩ : ∃ j_ : Int, (IntKind.u64.wrap ((IntKind.u64.wrap (t262)) + 1)) = j_ := ⟨_, rfl⟩
              replace H : (if 0 ≤ (ji48) then (if (shr .u64 x6_39 (ji48)) = 0 then ((numeralref11_Low.f a1).bind fun t266 => (if x7_39 < t266 then (numeralref11_Pack.j6 kj39 a1 x6_39 (IntKind.u64.wrap (t262)) (wrap64 ((wrap64 (x7_39 - t265)) + 1)) true a0_0 a0_1 a0_2 a0_3) else (if 0 ≤ (IntKind.u64.wrap (t262)) then (if (shr .u64 x6_39 (IntKind.u64.wrap (t262))) = 0 then (numeralref11_Pack.j6 kj39 a1 x6_39 (IntKind.u64.wrap (t262)) (wrap64 ((wrap64 (x7_39 - t265)) + 1)) false a0_0 a0_1 a0_2 a0_3) else ((numeralref11_Top.f a1).bind fun t267 => (numeralref11_Pack.j6 kj39 a1 x6_39 (IntKind.u64.wrap (t262)) (wrap64 ((wrap64 (x7_39 - t265)) + 1)) (decide ((wrap64 ((wrap64 (x7_39 - t265)) + 1)) ≥ (wrap64 (t267)))) a0_0 a0_1 a0_2 a0_3))) else (none)))) else (numeralref11_Pack.j6 kj39 a1 x6_39 (IntKind.u64.wrap (t262)) (wrap64 ((wrap64 (x7_39 - t265)) + 1)) true a0_0 a0_1 a0_2 a0_3)) else (none)) = some (r1, r2) := by first | (rw [hji48] at H; exact H) | (simp only [hji48] at H ⊢; exact H)
              by_cases c49 : 0 ≤ (ji48)
              ·rw [if_pos c49] at H
               have c49b0 := eq_true c49
               have c49b1 : decide (0 ≤ (ji48)) = true := decide_eq_true c49
               clear c49
               obtain ⟨ji50, hji50⟩ : ∃ j_ : Int, (shr .u64 x6_39 (ji48)) = j_ := ⟨_, rfl⟩
               replace H : (if (ji50) = 0 then ((numeralref11_Low.f a1).bind fun t266 => (if x7_39 < t266 then (numeralref11_Pack.j6 kj39 a1 x6_39 (IntKind.u64.wrap (t262)) (wrap64 ((wrap64 (x7_39 - t265)) + 1)) true a0_0 a0_1 a0_2 a0_3) else (if 0 ≤ (IntKind.u64.wrap (t262)) then (if (shr .u64 x6_39 (IntKind.u64.wrap (t262))) = 0 then (numeralref11_Pack.j6 kj39 a1 x6_39 (IntKind.u64.wrap (t262)) (wrap64 ((wrap64 (x7_39 - t265)) + 1)) false a0_0 a0_1 a0_2 a0_3) else ((numeralref11_Top.f a1).bind fun t267 => (numeralref11_Pack.j6 kj39 a1 x6_39 (IntKind.u64.wrap (t262)) (wrap64 ((wrap64 (x7_39 - t265)) + 1)) (decide ((wrap64 ((wrap64 (x7_39 - t265)) + 1)) ≥ (wrap64 (t267)))) a0_0 a0_1 a0_2 a0_3))) else (none)))) else (numeralref11_Pack.j6 kj39 a1 x6_39 (IntKind.u64.wrap (t262)) (wrap64 ((wrap64 (x7_39 - t265)) + 1)) true a0_0 a0_1 a0_2 a0_3)) = some (r1, r2) := by first | (rw [hji50] at H; exact H) | (simp only [hji50] at H ⊢; exact H)
               have hji50_ : (x6_39 / 2 ^ min (ji48).toNat 64) = ji50 := hji50
               have hji50z : (ji48) ≤ 64 → (x6_39 / 2 ^ (ji48).toNat) = ji50 := shr_small hji50
               by_cases c51 : (ji50) = 0
               ·rw [if_pos c51] at H
                have c51b0 : ((ji50) == 0) = true := beq_iff_eq.mpr c51
                have c51b1 : ((ji50) != 0) = false := bne_eq_false_iff_eq.mpr c51
                clear c51
                (first | rw [c51b0] | (simp only [i64_w, i32_w]; rw [c51b0]) | skip)
                replace H := Option.bind_eq_some_iff.mp H
                obtain ⟨t266, A520, H⟩ := H
                replace H : (if x7_39 < t266 then (numeralref11_Pack.j6 kj39 a1 x6_39 (IntKind.u64.wrap (t262)) (wrap64 ((wrap64 (x7_39 - t265)) + 1)) true a0_0 a0_1 a0_2 a0_3) else (if 0 ≤ (IntKind.u64.wrap (t262)) then (if (shr .u64 x6_39 (IntKind.u64.wrap (t262))) = 0 then (numeralref11_Pack.j6 kj39 a1 x6_39 (IntKind.u64.wrap (t262)) (wrap64 ((wrap64 (x7_39 - t265)) + 1)) false a0_0 a0_1 a0_2 a0_3) else ((numeralref11_Top.f a1).bind fun t267 => (numeralref11_Pack.j6 kj39 a1 x6_39 (IntKind.u64.wrap (t262)) (wrap64 ((wrap64 (x7_39 - t265)) + 1)) (decide ((wrap64 ((wrap64 (x7_39 - t265)) + 1)) ≥ (wrap64 (t267)))) a0_0 a0_1 a0_2 a0_3))) else (none))) = some (r1, r2) := H
                have A52 := Aside0.mk A520
                clear A520
                by_cases c53 : x7_39 < t266
                ·rw [if_pos c53] at H
                 have c53b0 : decide (x7_39 < t266) = true := decide_eq_true c53
                 clear c53
                 have H' := Aside0.mk H
                 clear H
                 go_wp2_with (first | (go_at_call 43; (with_reducible refine (numeralref11_Low.calls a1 t266 _ A52.out).mono ?_); rintro e w' ⟨rfl, ⟨nd, rfl⟩⟩; (try first | exact ⟨rfl, _, World.drewN_drewN _ _ _⟩ | exact ⟨rfl, _, Eq.trans (World.drewN_drewN _ _ _) (congrArg (World.drewN _) (Nat.add_assoc _ _ _))⟩)))
                 repeat (go_quiet (first | (go_at_call 43; (with_reducible refine (numeralref11_Low.calls a1 t266 _ A52.out).mono ?_); rintro e w' ⟨rfl, ⟨nd, rfl⟩⟩; (try first | exact ⟨rfl, _, World.drewN_drewN _ _ _⟩ | exact ⟨rfl, _, Eq.trans (World.drewN_drewN _ _ _) (congrArg (World.drewN _) (Nat.add_assoc _ _ _))⟩))); try go_wp2_with (first | (go_at_call 43; (with_reducible refine (numeralref11_Low.calls a1 t266 _ A52.out).mono ?_); rintro e w' ⟨rfl, ⟨nd, rfl⟩⟩; (try first | exact ⟨rfl, _, World.drewN_drewN _ _ _⟩ | exact ⟨rfl, _, Eq.trans (World.drewN_drewN _ _ _) (congrArg (World.drewN _) (Nat.add_assoc _ _ _))⟩))))
                 go_meet
                 case rel => exact ⟨_, (true), (by first | rfl | (simp; done) | (simp [*]; done)), H', ⟨by have := HJ2.out; have := HJ26.out; have := HJ30.out; have := HJ39.out; first | omega | exact Nat.le_refl _⟩, ⟨by (with_reducible repeat (first | refine blk_drewN ?_ _ | refine blk_drew ?_ | refine blk_alloc ?_ _)); exact BK256.out⟩, ⟨by repeat (first | (with_reducible first | exact HB.out | apply below_alloc | apply pw_below_drewN | apply below_drew1 | refine below_set ?_ GE256.out) | exact HB.out)⟩⟩
                ·rw [if_neg c53] at H
                 have c53b0 : decide (x7_39 < t266) = false := decide_eq_false c53
                 clear c53
                 by_cases c54 : 0 ≤ (IntKind.u64.wrap (t262))
                 ·rw [if_pos c54] at H
                  have c54b0 := eq_true c54
                  have c54b1 : decide (0 ≤ (IntKind.u64.wrap (t262))) = true := decide_eq_true c54
                  clear c54
                  obtain ⟨ji55, hji55⟩ : ∃ j_ : Int, (shr .u64 x6_39 (IntKind.u64.wrap (t262))) = j_ := ⟨_, rfl⟩
                  replace H : (if (ji55) = 0 then (numeralref11_Pack.j6 kj39 a1 x6_39 (IntKind.u64.wrap (t262)) (wrap64 ((wrap64 (x7_39 - t265)) + 1)) false a0_0 a0_1 a0_2 a0_3) else ((numeralref11_Top.f a1).bind fun t267 => (numeralref11_Pack.j6 kj39 a1 x6_39 (IntKind.u64.wrap (t262)) (wrap64 ((wrap64 (x7_39 - t265)) + 1)) (decide ((wrap64 ((wrap64 (x7_39 - t265)) + 1)) ≥ (wrap64 (t267)))) a0_0 a0_1 a0_2 a0_3))) = some (r1, r2) := by first | (rw [hji55] at H; exact H) | (simp only [hji55] at H ⊢; exact H)
                  (try rw [hji55] at A52)
                  have hji55_ : (x6_39 / 2 ^ min (IntKind.u64.wrap (t262)).toNat 64) = ji55 := hji55
                  have hji55z : (IntKind.u64.wrap (t262)) ≤ 64 → (x6_39 / 2 ^ (IntKind.u64.wrap (t262)).toNat) = ji55 := shr_small hji55
                  by_cases c56 : (ji55) = 0
                  ·rw [if_pos c56] at H
                   have c56b0 : ((ji55) == 0) = true := beq_iff_eq.mpr c56
                   have c56b1 : ((ji55) != 0) = false := bne_eq_false_iff_eq.mpr c56
                   clear c56
                   have H' := Aside0.mk H
                   clear H
                   go_wp2_with (first | (go_at_call 43; (with_reducible refine (numeralref11_Low.calls a1 t266 _ A52.out).mono ?_); rintro e w' ⟨rfl, ⟨nd, rfl⟩⟩; (try first | exact ⟨rfl, _, World.drewN_drewN _ _ _⟩ | exact ⟨rfl, _, Eq.trans (World.drewN_drewN _ _ _) (congrArg (World.drewN _) (Nat.add_assoc _ _ _))⟩)))
                   repeat (go_quiet (first | (go_at_call 43; (with_reducible refine (numeralref11_Low.calls a1 t266 _ A52.out).mono ?_); rintro e w' ⟨rfl, ⟨nd, rfl⟩⟩; (try first | exact ⟨rfl, _, World.drewN_drewN _ _ _⟩ | exact ⟨rfl, _, Eq.trans (World.drewN_drewN _ _ _) (congrArg (World.drewN _) (Nat.add_assoc _ _ _))⟩))); try go_wp2_with (first | (go_at_call 43; (with_reducible refine (numeralref11_Low.calls a1 t266 _ A52.out).mono ?_); rintro e w' ⟨rfl, ⟨nd, rfl⟩⟩; (try first | exact ⟨rfl, _, World.drewN_drewN _ _ _⟩ | exact ⟨rfl, _, Eq.trans (World.drewN_drewN _ _ _) (congrArg (World.drewN _) (Nat.add_assoc _ _ _))⟩))))
                   go_meet
                   case rel => exact ⟨_, (false), (by first | rfl | (simp; done) | (simp [*]; done)), H', ⟨by have := HJ2.out; have := HJ26.out; have := HJ30.out; have := HJ39.out; first | omega | exact Nat.le_refl _⟩, ⟨by (with_reducible repeat (first | refine blk_drewN ?_ _ | refine blk_drew ?_ | refine blk_alloc ?_ _)); exact BK256.out⟩, ⟨by repeat (first | (with_reducible first | exact HB.out | apply below_alloc | apply pw_below_drewN | apply below_drew1 | refine below_set ?_ GE256.out) | exact HB.out)⟩⟩
                  ·rw [if_neg c56] at H
                   have c56b0 : ((ji55) == 0) = false := beq_eq_false_iff_ne.mpr c56
                   have c56b1 : ((ji55) != 0) = true := bne_iff_ne.mpr c56
                   replace H := Option.bind_eq_some_iff.mp H
                   obtain ⟨t267, A570, H⟩ := H
                   replace H : (numeralref11_Pack.j6 kj39 a1 x6_39 (IntKind.u64.wrap (t262)) (wrap64 ((wrap64 (x7_39 - t265)) + 1)) (decide ((wrap64 ((wrap64 (x7_39 - t265)) + 1)) ≥ (wrap64 (t267)))) a0_0 a0_1 a0_2 a0_3) = some (r1, r2) := H
                   have A57 := Aside0.mk A570
                   clear A570
                   have H' := Aside0.mk H
                   clear H
                   go_wp2_with (first | (go_at_call 43; (with_reducible refine (numeralref11_Low.calls a1 t266 _ A52.out).mono ?_); rintro e w' ⟨rfl, ⟨nd, rfl⟩⟩; (try first | exact ⟨rfl, _, World.drewN_drewN _ _ _⟩ | exact ⟨rfl, _, Eq.trans (World.drewN_drewN _ _ _) (congrArg (World.drewN _) (Nat.add_assoc _ _ _))⟩)) | (go_at_call 52; (with_reducible refine (numeralref11_Top.calls a1 t267 _ A57.out).mono ?_); rintro e w' ⟨rfl, ⟨nd, rfl⟩⟩; (try first | exact ⟨rfl, _, World.drewN_drewN _ _ _⟩ | exact ⟨rfl, _, Eq.trans (World.drewN_drewN _ _ _) (congrArg (World.drewN _) (Nat.add_assoc _ _ _))⟩)))
                   repeat (go_quiet (first | (go_at_call 43; (with_reducible refine (numeralref11_Low.calls a1 t266 _ A52.out).mono ?_); rintro e w' ⟨rfl, ⟨nd, rfl⟩⟩; (try first | exact ⟨rfl, _, World.drewN_drewN _ _ _⟩ | exact ⟨rfl, _, Eq.trans (World.drewN_drewN _ _ _) (congrArg (World.drewN _) (Nat.add_assoc _ _ _))⟩)) | (go_at_call 52; (with_reducible refine (numeralref11_Top.calls a1 t267 _ A57.out).mono ?_); rintro e w' ⟨rfl, ⟨nd, rfl⟩⟩; (try first | exact ⟨rfl, _, World.drewN_drewN _ _ _⟩ | exact ⟨rfl, _, Eq.trans (World.drewN_drewN _ _ _) (congrArg (World.drewN _) (Nat.add_assoc _ _ _))⟩))); try go_wp2_with (first | (go_at_call 43; (with_reducible refine (numeralref11_Low.calls a1 t266 _ A52.out).mono ?_); rintro e w' ⟨rfl, ⟨nd, rfl⟩⟩; (try first | exact ⟨rfl, _, World.drewN_drewN _ _ _⟩ | exact ⟨rfl, _, Eq.trans (World.drewN_drewN _ _ _) (congrArg (World.drewN _) (Nat.add_assoc _ _ _))⟩)) | (go_at_call 52; (with_reducible refine (numeralref11_Top.calls a1 t267 _ A57.out).mono ?_); rintro e w' ⟨rfl, ⟨nd, rfl⟩⟩; (try first | exact ⟨rfl, _, World.drewN_drewN _ _ _⟩ | exact ⟨rfl, _, Eq.trans (World.drewN_drewN _ _ _) (congrArg (World.drewN _) (Nat.add_assoc _ _ _))⟩))))
                   go_meet
                   case rel => exact ⟨_, (decide ((wrap64 ((wrap64 (x7_39 - t265)) + 1)) ≥ (wrap64 (t267)))), (by first | rfl | (simp; done) | (simp [*]; done)), H', ⟨by have := HJ2.out; have := HJ26.out; have := HJ30.out; have := HJ39.out; first | omega | exact Nat.le_refl _⟩, ⟨by (with_reducible repeat (first | refine blk_drewN ?_ _ | refine blk_drew ?_ | refine blk_alloc ?_ _)); exact BK256.out⟩, ⟨by repeat (first | (with_reducible first | exact HB.out | apply below_alloc | apply pw_below_drewN | apply below_drew1 | refine below_set ?_ GE256.out) | exact HB.out)⟩⟩
                 ·rw [if_neg c54] at H
                  exact absurd H (by simp)
               ·rw [if_neg c51] at H
                have c51b0 : ((ji50) == 0) = false := beq_eq_false_iff_ne.mpr c51
                have c51b1 : ((ji50) != 0) = true := bne_iff_ne.mpr c51
                (first | rw [c51b0] | (simp only [i64_w, i32_w]; rw [c51b0]) | skip)
                have H' := Aside0.mk H
                clear H
                go_wp2
                repeat (go_quiet (fail); try go_wp2)
                go_meet
                case rel => exact ⟨_, (true), (by first | rfl | (simp; done) | (simp [*]; done)), H', ⟨by have := HJ2.out; have := HJ26.out; have := HJ30.out; have := HJ39.out; first | omega | exact Nat.le_refl _⟩, ⟨by (with_reducible repeat (first | refine blk_drewN ?_ _ | refine blk_drew ?_ | refine blk_alloc ?_ _)); exact BK256.out⟩, ⟨by repeat (first | (with_reducible first | exact HB.out | apply below_alloc | apply pw_below_drewN | apply below_drew1 | refine below_set ?_ GE256.out) | exact HB.out)⟩⟩
              ·rw [if_neg c49] at H
               exact absurd H (by simp)
             case rest =>
              clear HC47
              try clear c1
              try clear c2
              try clear p2
              try clear c3
              try clear c4
              try clear c5
              try clear c6
              try clear p6
              try clear c7
              try clear c7b0
              try clear c9
              try clear c9b0
              try clear c11
              try clear c11b0
              try clear c11b1
              try clear c12
              try clear c12b0
              try clear c12b1
              try clear c16
              try clear c16b0
              try clear c16b1
              try clear c19
              try clear c19b0
              try clear c19b1
              try clear c23
              try clear c23b0
              try clear c23b1
              try clear c29
              try clear c29b0
              try clear c30
              try clear c33
              try clear c33b0
              try clear c33b1
              try clear c35
              try clear c35b0
              try clear c35b1
              try clear c37
              try clear c37b0
              try clear c37b1
              try clear c39
              try clear c39b0
              try clear c41
              try clear c41b0
              try clear c41b1
              try clear c43
              try clear c43b0
              try clear c43b1
              try clear c45
              try clear c45b0
              try clear c49
              try clear c49b0
              try clear c49b1
              try clear c51
              try clear c51b0
              try clear c51b1
              try clear c53
              try clear c53b0
              try clear c54
              try clear c54b0
              try clear c54b1
              try clear c56
              try clear c56b0
              try clear c56b1
              try clear hcz10_0
              try clear hcz10_1
              try clear hcz10_2
              try clear hcz10_3
              try clear hcz13_0
              try clear hcz13_1
              try clear hcz13_2
              try clear hcz13_3
              try clear hcz14_0
              try clear hcz14_1
              try clear hcz14_2
              try clear hcz14_3
              try clear hcz15_0
              try clear hcz15_1
              try clear hcz15_2
              try clear hcz15_3
              try clear hcz18_0
              try clear hcz18_1
              try clear hcz18_2
              try clear hcz18_3
              try clear hcz22_0
              try clear hcz22_1
              try clear hcz22_2
              try clear hcz22_3
              try clear hcz25_0
              try clear hcz25_1
              try clear hcz25_2
              try clear hcz25_3
              try clear hcz28_0
              try clear hcz28_1
              try clear hcz28_2
              try clear hcz28_3
              try clear hcz8_0
              try clear hcz8_1
              try clear hcz8_2
              try clear hcz8_3
              try clear hfz10_0
              try clear hfz10_1
              try clear hfz10_2
              try clear hfz10_3
              try clear hfz13_0
              try clear hfz13_1
              try clear hfz13_2
              try clear hfz13_3
              try clear hfz14_0
              try clear hfz14_1
              try clear hfz14_2
              try clear hfz14_3
              try clear hfz15_0
              try clear hfz15_1
              try clear hfz15_2
              try clear hfz15_3
              try clear hfz18_0
              try clear hfz18_1
              try clear hfz18_2
              try clear hfz18_3
              try clear hfz22_0
              try clear hfz22_1
              try clear hfz22_2
              try clear hfz22_3
              try clear hfz25_0
              try clear hfz25_1
              try clear hfz25_2
              try clear hfz25_3
              try clear hfz28_0
              try clear hfz28_1
              try clear hfz28_2
              try clear hfz28_3
              try clear hfz8_0
              try clear hfz8_1
              try clear hfz8_2
              try clear hfz8_3
              try clear p2
              try clear p6
              obtain ⟨kq, x128_46, rfl, HA, HJ46, BK256, HB⟩ := hcut
              cases kq with
              | zero => exact absurd HA.out (by simp [numeralref11_Pack.j6])
              | succ kj46 =>
               have H := HA.out
               clear HA
               simp only [numeralref11_Pack.j6] at H
               by_cases c58 : x128_46 = true
               ·subst c58
                have H1 : (some (0, 4)) = some (r1, r2) := by rw [if_pos rfl] at H; exact H
                clear H
                have H := H1
                clear H1
                simp only [Option.some.injEq, Prod.mk.injEq] at H
                obtain ⟨rfl, rfl⟩ := H
                go_wp2
                repeat (go_quiet (fail); try go_wp2)
                go_ret2
                exact ⟨by first | rfl | (simp [errW_none, errW_some] <;> rfl) | (simp [*, errW_none, errW_some] <;> rfl), by repeat (first | (with_reducible first | exact HB.out | apply below_alloc | apply pw_below_drewN | apply below_drew1 | refine below_set ?_ GE256.out) | exact HB.out)⟩
               ·replace c58 := Bool.eq_false_iff.mpr c58
                subst c58
                have H1 : (if 0 ≤ (IntKind.u64.wrap (t262)) then (if (shr .u64 x6_39 (IntKind.u64.wrap (t262))) = 0 then ((numeralref11_Signed.f a0_0 x6_39 a1).bind fun t268 => (some (t268, 0))) else ((numeralref11_Signed.f a0_0 (Go.bits .or .u64 (shl .u64 (IntKind.u64.wrap ((wrap64 ((wrap64 (x7_39 - t265)) + 1)))) (IntKind.u64.wrap (t262))) (Go.bits .and .u64 x6_39 (IntKind.u64.wrap ((shl .u64 1 (IntKind.u64.wrap (t262))) - 1)))) a1).bind fun t269 => (some (t269, 0)))) else (none)) = some (r1, r2) := by rw [if_neg (show ¬ (false = true) by decide)] at H; exact H
                clear H
                have H := H1
                clear H1
                by_cases c59 : 0 ≤ (IntKind.u64.wrap (t262))
                ·rw [if_pos c59] at H
                 have c59b0 := eq_true c59
                 have c59b1 : decide (0 ≤ (IntKind.u64.wrap (t262))) = true := decide_eq_true c59
                 clear c59
                 obtain ⟨ji60, hji60⟩ : ∃ j_ : Int, (shr .u64 x6_39 (IntKind.u64.wrap (t262))) = j_ := ⟨_, rfl⟩
                 replace H : (if (ji60) = 0 then ((numeralref11_Signed.f a0_0 x6_39 a1).bind fun t268 => (some (t268, 0))) else ((numeralref11_Signed.f a0_0 (Go.bits .or .u64 (shl .u64 (IntKind.u64.wrap ((wrap64 ((wrap64 (x7_39 - t265)) + 1)))) (IntKind.u64.wrap (t262))) (Go.bits .and .u64 x6_39 (IntKind.u64.wrap ((shl .u64 1 (IntKind.u64.wrap (t262))) - 1)))) a1).bind fun t269 => (some (t269, 0)))) = some (r1, r2) := by first | (rw [hji60] at H; exact H) | (simp only [hji60] at H ⊢; exact H)
                 have hji60_ : (x6_39 / 2 ^ min (IntKind.u64.wrap (t262)).toNat 64) = ji60 := hji60
                 have hji60z : (IntKind.u64.wrap (t262)) ≤ 64 → (x6_39 / 2 ^ (IntKind.u64.wrap (t262)).toNat) = ji60 := shr_small hji60
                 by_cases c61 : (ji60) = 0
                 ·rw [if_pos c61] at H
                  have c61b0 : ((ji60) == 0) = true := beq_iff_eq.mpr c61
                  have c61b1 : ((ji60) != 0) = false := bne_eq_false_iff_eq.mpr c61
                  clear c61
                  replace H := Option.bind_eq_some_iff.mp H
                  obtain ⟨t268, A620, H⟩ := H
                  replace H : (some (t268, 0)) = some (r1, r2) := H
                  have A62 := Aside0.mk A620
                  clear A620
                  simp only [Option.some.injEq, Prod.mk.injEq] at H
                  obtain ⟨rfl, rfl⟩ := H
                  have hcz63_0 : wc.cell? ⟨gb256, 0, none⟩ = some (.bool a0_0) := (blk_cell BK256.out 0).trans rfl
                  have hcz63_1 : wc.cell? ⟨gb256, 1, none⟩ = some (.int .i64 a0_1) := (blk_cell BK256.out 1).trans rfl
                  have hcz63_2 : wc.cell? ⟨gb256, 2, none⟩ = some (.int .u64 a0_2) := (blk_cell BK256.out 2).trans rfl
                  have hcz63_3 : wc.cell? ⟨gb256, 3, none⟩ = some (.int .i64 a0_3) := (blk_cell BK256.out 3).trans rfl
                  have hfz63_0 := blk_frozen BK256.out 0
                  have hfz63_1 := blk_frozen BK256.out 1
                  have hfz63_2 := blk_frozen BK256.out 2
                  have hfz63_3 := blk_frozen BK256.out 3
                  go_wp2_with (first | (go_at_call 30; (with_reducible refine (numeralref11_Signed.calls a0_0 x6_39 a1 t268 _ A62.out).mono ?_); rintro e w' ⟨rfl, ⟨nd, rfl⟩⟩; (try first | exact ⟨rfl, _, World.drewN_drewN _ _ _⟩ | exact ⟨rfl, _, Eq.trans (World.drewN_drewN _ _ _) (congrArg (World.drewN _) (Nat.add_assoc _ _ _))⟩)))
                  repeat (go_quiet (first | (go_at_call 30; (with_reducible refine (numeralref11_Signed.calls a0_0 x6_39 a1 t268 _ A62.out).mono ?_); rintro e w' ⟨rfl, ⟨nd, rfl⟩⟩; (try first | exact ⟨rfl, _, World.drewN_drewN _ _ _⟩ | exact ⟨rfl, _, Eq.trans (World.drewN_drewN _ _ _) (congrArg (World.drewN _) (Nat.add_assoc _ _ _))⟩))); try go_wp2_with (first | (go_at_call 30; (with_reducible refine (numeralref11_Signed.calls a0_0 x6_39 a1 t268 _ A62.out).mono ?_); rintro e w' ⟨rfl, ⟨nd, rfl⟩⟩; (try first | exact ⟨rfl, _, World.drewN_drewN _ _ _⟩ | exact ⟨rfl, _, Eq.trans (World.drewN_drewN _ _ _) (congrArg (World.drewN _) (Nat.add_assoc _ _ _))⟩))))
                  go_ret2
                  exact ⟨by first | rfl | (simp [errW_none, errW_some] <;> rfl) | (simp only [← hji60]; first | rfl | (simp [errW_none, errW_some] <;> rfl)) | (simp [*, errW_none, errW_some] <;> rfl), by repeat (first | (with_reducible first | exact HB.out | apply below_alloc | apply pw_below_drewN | apply below_drew1 | refine below_set ?_ GE256.out) | exact HB.out)⟩
                 ·rw [if_neg c61] at H
                  have c61b0 : ((ji60) == 0) = false := beq_eq_false_iff_ne.mpr c61
                  have c61b1 : ((ji60) != 0) = true := bne_iff_ne.mpr c61
                  have c64b0 := eq_true (of_decide_eq_true (by first | (with_reducible assumption) | assumption) : 0 ≤ (IntKind.u64.wrap (t262)))
                  obtain ⟨ji65, hji65⟩ : ∃ j_ : Int, (shl .u64 (IntKind.u64.wrap ((wrap64 ((wrap64 (x7_39 - t265)) + 1)))) (IntKind.u64.wrap (t262))) = j_ := ⟨_, rfl⟩
                  replace H : ((numeralref11_Signed.f a0_0 (Go.bits .or .u64 (ji65) (Go.bits .and .u64 x6_39 (IntKind.u64.wrap ((shl .u64 1 (IntKind.u64.wrap (t262))) - 1)))) a1).bind fun t269 => (some (t269, 0))) = some (r1, r2) := by first | (rw [hji65] at H; exact H) | (simp only [hji65] at H ⊢; exact H)
                  have hji65_ : (IntKind.u64.wrap ((IntKind.u64.wrap ((wrap64 ((wrap64 (x7_39 - t265)) + 1)))) * 2 ^ min (IntKind.u64.wrap (t262)).toNat 64)) = ji65 := hji65
                  have hji65z : (IntKind.u64.wrap (t262)) ≤ 64 → (IntKind.u64.wrap ((IntKind.u64.wrap ((wrap64 ((wrap64 (x7_39 - t265)) + 1)))) * 2 ^ (IntKind.u64.wrap (t262)).toNat)) = ji65 := shl_small hji65
                  have c66b0 := eq_true (of_decide_eq_true (by first | (with_reducible assumption) | assumption) : 0 ≤ (IntKind.u64.wrap (t262)))
                  obtain ⟨ji67, hji67⟩ : ∃ j_ : Int, (shl .u64 1 (IntKind.u64.wrap (t262))) = j_ := ⟨_, rfl⟩
                  replace H : ((numeralref11_Signed.f a0_0 (Go.bits .or .u64 (ji65) (Go.bits .and .u64 x6_39 (IntKind.u64.wrap ((ji67) - 1)))) a1).bind fun t269 => (some (t269, 0))) = some (r1, r2) := by first | (rw [hji67] at H; exact H) | (simp only [hji67] at H ⊢; exact H)
                  have hji67_ : (IntKind.u64.wrap (1 * 2 ^ min (IntKind.u64.wrap (t262)).toNat 64)) = ji67 := hji67
                  have hji67z : (IntKind.u64.wrap (t262)) ≤ 64 → (IntKind.u64.wrap (1 * 2 ^ (IntKind.u64.wrap (t262)).toNat)) = ji67 := shl_small hji67
                  have hji67u : (IntKind.u64.wrap (2 ^ min (IntKind.u64.wrap (t262)).toNat 64)) = ji67 := by have h_ := hji67_; rw [Int.one_mul] at h_; exact h_
                  have hji67v : (IntKind.u64.wrap (t262)) ≤ 64 → (IntKind.u64.wrap (2 ^ (IntKind.u64.wrap (t262)).toNat)) = ji67 := fun hle_ => by have h_ := hji67z hle_; rw [Int.one_mul] at h_; exact h_
                  obtain ⟨ji68, hji68⟩ : ∃ j_ : Int, (Go.bits .and .u64 x6_39 (IntKind.u64.wrap ((ji67) - 1))) = j_ := ⟨_, rfl⟩
                  replace H : ((numeralref11_Signed.f a0_0 (Go.bits .or .u64 (ji65) (ji68)) a1).bind fun t269 => (some (t269, 0))) = some (r1, r2) := by first | (rw [hji68] at H; exact H) | (simp only [hji68] at H ⊢; exact H)
                  obtain ⟨ji69, hji69⟩ : ∃ j_ : Int, (Go.bits .or .u64 (ji65) (ji68)) = j_ := ⟨_, rfl⟩
                  replace H : ((numeralref11_Signed.f a0_0 (ji69) a1).bind fun t269 => (some (t269, 0))) = some (r1, r2) := by first | (rw [hji69] at H; exact H) | (simp only [hji69] at H ⊢; exact H)
                  replace H := Option.bind_eq_some_iff.mp H
                  obtain ⟨t269, A700, H⟩ := H
                  replace H : (some (t269, 0)) = some (r1, r2) := H
                  have A70 := Aside0.mk A700
                  clear A700
                  simp only [Option.some.injEq, Prod.mk.injEq] at H
                  obtain ⟨rfl, rfl⟩ := H
                  have hcz71_0 : wc.cell? ⟨gb256, 0, none⟩ = some (.bool a0_0) := (blk_cell BK256.out 0).trans rfl
                  have hcz71_1 : wc.cell? ⟨gb256, 1, none⟩ = some (.int .i64 a0_1) := (blk_cell BK256.out 1).trans rfl
                  have hcz71_2 : wc.cell? ⟨gb256, 2, none⟩ = some (.int .u64 a0_2) := (blk_cell BK256.out 2).trans rfl
                  have hcz71_3 : wc.cell? ⟨gb256, 3, none⟩ = some (.int .i64 a0_3) := (blk_cell BK256.out 3).trans rfl
                  have hfz71_0 := blk_frozen BK256.out 0
                  have hfz71_1 := blk_frozen BK256.out 1
                  have hfz71_2 := blk_frozen BK256.out 2
                  have hfz71_3 := blk_frozen BK256.out 3
                  go_wp2_with (first | (go_at_call 30; (with_reducible refine (numeralref11_Signed.calls a0_0 ji69 a1 t269 _ A70.out).mono ?_); rintro e w' ⟨rfl, ⟨nd, rfl⟩⟩; (try first | exact ⟨rfl, _, World.drewN_drewN _ _ _⟩ | exact ⟨rfl, _, Eq.trans (World.drewN_drewN _ _ _) (congrArg (World.drewN _) (Nat.add_assoc _ _ _))⟩)))
                  repeat (go_quiet (first | (go_at_call 30; (with_reducible refine (numeralref11_Signed.calls a0_0 ji69 a1 t269 _ A70.out).mono ?_); rintro e w' ⟨rfl, ⟨nd, rfl⟩⟩; (try first | exact ⟨rfl, _, World.drewN_drewN _ _ _⟩ | exact ⟨rfl, _, Eq.trans (World.drewN_drewN _ _ _) (congrArg (World.drewN _) (Nat.add_assoc _ _ _))⟩))); try go_wp2_with (first | (go_at_call 30; (with_reducible refine (numeralref11_Signed.calls a0_0 ji69 a1 t269 _ A70.out).mono ?_); rintro e w' ⟨rfl, ⟨nd, rfl⟩⟩; (try first | exact ⟨rfl, _, World.drewN_drewN _ _ _⟩ | exact ⟨rfl, _, Eq.trans (World.drewN_drewN _ _ _) (congrArg (World.drewN _) (Nat.add_assoc _ _ _))⟩))))
                  go_ret2
                  exact ⟨by first | rfl | (simp [errW_none, errW_some] <;> rfl) | (simp only [← hji60, ← hji65, ← hji67, ← hji68, ← hji69]; first | rfl | (simp [errW_none, errW_some] <;> rfl)) | (simp [*, errW_none, errW_some] <;> rfl), by repeat (first | (with_reducible first | exact HB.out | apply below_alloc | apply pw_below_drewN | apply below_drew1 | refine below_set ?_ GE256.out) | exact HB.out)⟩
                ·rw [if_neg c59] at H
                 exact absurd H (by simp)

end Go.Proofs.YtbnmchaldolpfaaDoor.Xo
