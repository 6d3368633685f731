-- PRINTED by print.py (a twelfth state) out of the translation. Not trusted: Lean checks it.
import Derived.Test.YtbjmfocjigikgaaDoorXix0
import Derived.Test.YtbjmfocjigikgaaDoorXix1
import Derived.Test.YtbjmfocjigikgaaDoorXix3
import Derived.Test.YtbjmfocjigikgaaDoorXix5
import Derived.Test.YtbjmfocjigikgaaDoorXix6
namespace Go.Proofs.YtbjmfocjigikgaaDoor.Xi
open Go.RowKit Go.Proofs.YtbjmfocjigikgaaDoorW.PrintWords Go.Proofs.YtbjmfocjigikgaaDoorW.PrintLast Go.Proofs.YtbjmfocjigikgaaDoorW.PrintMore
attribute [local go_sem] max2_int min2_int max_two min_two max_three min_three max_four min_four   -- for this text's walks alone
set_option linter.unusedVariables false
set_option linter.unusedSimpArgs false

/-! ### round_Whole: function 13 -/
def round_Whole.f (k : Nat) (a0 : Int) (a1 : Bool) (a2 : Int) (a3 : Int) (a4 : Bool) : Option (Int × Option Int) := (round_format.f a0).bind fun bt216 => (if bt216.2.2 = true then ((round_far.f a3).bind fun t219 => (if t219 = true then (some (0, some 1)) else (if a2 = 0 then ((bits_Zero.f k a1 a0).bind fun bt220 => (some (bt220.1, bt220.2))) else ((bits_LeadingZeros64.f a2).bind fun t222 => (if 0 ≤ (IntKind.u64.wrap (t222)) then (if (mx (wrap64 (63 - bt216.1)) (wrap64 ((wrap64 (bt216.2.1 - 1)) - (wrap64 (a3 - t222))))) > 63 then ((round_pack.f k a0 a1 0 bt216.2.1 false true).bind fun bt223 => (some (bt223.1, bt223.2))) else (if a4 = true then (if 0 ≤ (IntKind.u64.wrap (mx (wrap64 (63 - bt216.1)) (wrap64 ((wrap64 (bt216.2.1 - 1)) - (wrap64 (a3 - t222)))))) then ((round_pack.f k a0 a1 ((shr .u64 (shl .u64 a2 (IntKind.u64.wrap (t222))) (IntKind.u64.wrap (mx (wrap64 (63 - bt216.1)) (wrap64 ((wrap64 (bt216.2.1 - 1)) - (wrap64 (a3 - t222))))))) / 2) (wrap64 ((wrap64 ((wrap64 (a3 - t222)) + (mx (wrap64 (63 - bt216.1)) (wrap64 ((wrap64 (bt216.2.1 - 1)) - (wrap64 (a3 - t222))))))) + 1)) ((Go.bits .and .u64 (shr .u64 (shl .u64 a2 (IntKind.u64.wrap (t222))) (IntKind.u64.wrap (mx (wrap64 (63 - bt216.1)) (wrap64 ((wrap64 (bt216.2.1 - 1)) - (wrap64 (a3 - t222))))))) 1) == 1) true).bind fun bt225 => (some (bt225.1, bt225.2))) else (none)) else (if 0 ≤ (IntKind.u64.wrap (mx (wrap64 (63 - bt216.1)) (wrap64 ((wrap64 (bt216.2.1 - 1)) - (wrap64 (a3 - t222)))))) then ((round_pack.f k a0 a1 ((shr .u64 (shl .u64 a2 (IntKind.u64.wrap (t222))) (IntKind.u64.wrap (mx (wrap64 (63 - bt216.1)) (wrap64 ((wrap64 (bt216.2.1 - 1)) - (wrap64 (a3 - t222))))))) / 2) (wrap64 ((wrap64 ((wrap64 (a3 - t222)) + (mx (wrap64 (63 - bt216.1)) (wrap64 ((wrap64 (bt216.2.1 - 1)) - (wrap64 (a3 - t222))))))) + 1)) ((Go.bits .and .u64 (shr .u64 (shl .u64 a2 (IntKind.u64.wrap (t222))) (IntKind.u64.wrap (mx (wrap64 (63 - bt216.1)) (wrap64 ((wrap64 (bt216.2.1 - 1)) - (wrap64 (a3 - t222))))))) 1) == 1) ((Go.bits .and .u64 (shl .u64 a2 (IntKind.u64.wrap (t222))) (IntKind.u64.wrap ((shl .u64 1 (IntKind.u64.wrap (mx (wrap64 (63 - bt216.1)) (wrap64 ((wrap64 (bt216.2.1 - 1)) - (wrap64 (a3 - t222))))))) - 1))) != 0)).bind fun bt227 => (some (bt227.1, bt227.2))) else (none)))) else (none)))))) else (some (0, some 5)))
theorem round_Whole.mono : ∀ a0 a1 a2 a3 a4 k, LeO (round_Whole.f k a0 a1 a2 a3 a4) (round_Whole.f (k + 1) a0 a1 a2 a3 a4) := by
 intro a0 a1 a2 a3 a4 k
 unfold round_Whole.f
 repeat' first
   | (with_reducible exact bits_Zero.mono _ _ _)
   | (with_reducible exact round_pack.mono _ _ _ _ _ _ _)
   | (with_reducible exact LeO.refl _)
   | (with_reducible exact LeO.none _)
   | (with_reducible refine LeO.ite ?_ ?_)
   | (with_reducible refine LeO.bind ?_ (fun _ => ?_))
   | exact bits_Zero.mono _ _ _
   | exact round_pack.mono _ _ _ _ _ _ _
   | exact LeO.none _
   | refine LeO.ite ?_ ?_
   | refine LeO.bind ?_ (fun _ => ?_)
set_option maxHeartbeats 8000000 in
set_option maxRecDepth 100000 in
theorem round_Whole.calls (k : Nat) (a0 : Int) (a1 : Bool) (a2 : Int) (a3 : Int) (a4 : Bool) (r1 : Int) (r2 : Option Int) (w : World) (hl_DB64 : Laid_DB64 w) (h : round_Whole.f k a0 a1 a2 a3 a4 = some (r1, r2)) :
  Calls Tryd.prog 13 #[.int .i64 a0, .bool a1, .int .u64 a2, .int .i64 a3, .bool a4] w fun e w' => e = .returned (.tuple #[.int .u64 r1, errW r2]) ∧ Below w.heap.size w w' := by
 have hu29 := Tryd.underlying29
 have hu55 := Tryd.underlying55
 have HB := Aside0.mk (Below.refl w.heap.size w)
 have HL_DB64 := Aside0.mk hl_DB64
 clear hl_DB64
 have H : ((round_format.f a0).bind fun bt216 => (if bt216.2.2 = true then ((round_far.f a3).bind fun t219 => (if t219 = true then (some (0, some 1)) else (if a2 = 0 then ((bits_Zero.f k a1 a0).bind fun bt220 => (some (bt220.1, bt220.2))) else ((bits_LeadingZeros64.f a2).bind fun t222 => (if 0 ≤ (IntKind.u64.wrap (t222)) then (if (mx (wrap64 (63 - bt216.1)) (wrap64 ((wrap64 (bt216.2.1 - 1)) - (wrap64 (a3 - t222))))) > 63 then ((round_pack.f k a0 a1 0 bt216.2.1 false true).bind fun bt223 => (some (bt223.1, bt223.2))) else (if a4 = true then (if 0 ≤ (IntKind.u64.wrap (mx (wrap64 (63 - bt216.1)) (wrap64 ((wrap64 (bt216.2.1 - 1)) - (wrap64 (a3 - t222)))))) then ((round_pack.f k a0 a1 ((shr .u64 (shl .u64 a2 (IntKind.u64.wrap (t222))) (IntKind.u64.wrap (mx (wrap64 (63 - bt216.1)) (wrap64 ((wrap64 (bt216.2.1 - 1)) - (wrap64 (a3 - t222))))))) / 2) (wrap64 ((wrap64 ((wrap64 (a3 - t222)) + (mx (wrap64 (63 - bt216.1)) (wrap64 ((wrap64 (bt216.2.1 - 1)) - (wrap64 (a3 - t222))))))) + 1)) ((Go.bits .and .u64 (shr .u64 (shl .u64 a2 (IntKind.u64.wrap (t222))) (IntKind.u64.wrap (mx (wrap64 (63 - bt216.1)) (wrap64 ((wrap64 (bt216.2.1 - 1)) - (wrap64 (a3 - t222))))))) 1) == 1) true).bind fun bt225 => (some (bt225.1, bt225.2))) else (none)) else (if 0 ≤ (IntKind.u64.wrap (mx (wrap64 (63 - bt216.1)) (wrap64 ((wrap64 (bt216.2.1 - 1)) - (wrap64 (a3 - t222)))))) then ((round_pack.f k a0 a1 ((shr .u64 (shl .u64 a2 (IntKind.u64.wrap (t222))) (IntKind.u64.wrap (mx (wrap64 (63 - bt216.1)) (wrap64 ((wrap64 (bt216.2.1 - 1)) - (wrap64 (a3 - t222))))))) / 2) (wrap64 ((wrap64 ((wrap64 (a3 - t222)) + (mx (wrap64 (63 - bt216.1)) (wrap64 ((wrap64 (bt216.2.1 - 1)) - (wrap64 (a3 - t222))))))) + 1)) ((Go.bits .and .u64 (shr .u64 (shl .u64 a2 (IntKind.u64.wrap (t222))) (IntKind.u64.wrap (mx (wrap64 (63 - bt216.1)) (wrap64 ((wrap64 (bt216.2.1 - 1)) - (wrap64 (a3 - t222))))))) 1) == 1) ((Go.bits .and .u64 (shl .u64 a2 (IntKind.u64.wrap (t222))) (IntKind.u64.wrap ((shl .u64 1 (IntKind.u64.wrap (mx (wrap64 (63 - bt216.1)) (wrap64 ((wrap64 (bt216.2.1 - 1)) - (wrap64 (a3 - t222))))))) - 1))) != 0)).bind fun bt227 => (some (bt227.1, bt227.2))) else (none)))) else (none)))))) else (some (0, some 5)))) = some (r1, r2) := h
 clear h
 replace H := Option.bind_eq_some_iff.mp H
 obtain ⟨⟨t216, t217, t218⟩, A60, H⟩ := H
 replace H : (if t218 = true then ((round_far.f a3).bind fun t219 => (if t219 = true then (some (0, some 1)) else (if a2 = 0 then ((bits_Zero.f k a1 a0).bind fun bt220 => (some (bt220.1, bt220.2))) else ((bits_LeadingZeros64.f a2).bind fun t222 => (if 0 ≤ (IntKind.u64.wrap (t222)) then (if (mx (wrap64 (63 - t216)) (wrap64 ((wrap64 (t217 - 1)) - (wrap64 (a3 - t222))))) > 63 then ((round_pack.f k a0 a1 0 t217 false true).bind fun bt223 => (some (bt223.1, bt223.2))) else (if a4 = true then (if 0 ≤ (IntKind.u64.wrap (mx (wrap64 (63 - t216)) (wrap64 ((wrap64 (t217 - 1)) - (wrap64 (a3 - t222)))))) then ((round_pack.f k a0 a1 ((shr .u64 (shl .u64 a2 (IntKind.u64.wrap (t222))) (IntKind.u64.wrap (mx (wrap64 (63 - t216)) (wrap64 ((wrap64 (t217 - 1)) - (wrap64 (a3 - t222))))))) / 2) (wrap64 ((wrap64 ((wrap64 (a3 - t222)) + (mx (wrap64 (63 - t216)) (wrap64 ((wrap64 (t217 - 1)) - (wrap64 (a3 - t222))))))) + 1)) ((Go.bits .and .u64 (shr .u64 (shl .u64 a2 (IntKind.u64.wrap (t222))) (IntKind.u64.wrap (mx (wrap64 (63 - t216)) (wrap64 ((wrap64 (t217 - 1)) - (wrap64 (a3 - t222))))))) 1) == 1) true).bind fun bt225 => (some (bt225.1, bt225.2))) else (none)) else (if 0 ≤ (IntKind.u64.wrap (mx (wrap64 (63 - t216)) (wrap64 ((wrap64 (t217 - 1)) - (wrap64 (a3 - t222)))))) then ((round_pack.f k a0 a1 ((shr .u64 (shl .u64 a2 (IntKind.u64.wrap (t222))) (IntKind.u64.wrap (mx (wrap64 (63 - t216)) (wrap64 ((wrap64 (t217 - 1)) - (wrap64 (a3 - t222))))))) / 2) (wrap64 ((wrap64 ((wrap64 (a3 - t222)) + (mx (wrap64 (63 - t216)) (wrap64 ((wrap64 (t217 - 1)) - (wrap64 (a3 - t222))))))) + 1)) ((Go.bits .and .u64 (shr .u64 (shl .u64 a2 (IntKind.u64.wrap (t222))) (IntKind.u64.wrap (mx (wrap64 (63 - t216)) (wrap64 ((wrap64 (t217 - 1)) - (wrap64 (a3 - t222))))))) 1) == 1) ((Go.bits .and .u64 (shl .u64 a2 (IntKind.u64.wrap (t222))) (IntKind.u64.wrap ((shl .u64 1 (IntKind.u64.wrap (mx (wrap64 (63 - t216)) (wrap64 ((wrap64 (t217 - 1)) - (wrap64 (a3 - t222))))))) - 1))) != 0)).bind fun bt227 => (some (bt227.1, bt227.2))) else (none)))) else (none)))))) else (some (0, some 5))) = some (r1, r2) := H
 have A6 := Aside0.mk A60
 clear A60
 by_cases c7 : t218 = true
 ·subst c7
  have H1 : ((round_far.f a3).bind fun t219 => (if t219 = true then (some (0, some 1)) else (if a2 = 0 then ((bits_Zero.f k a1 a0).bind fun bt220 => (some (bt220.1, bt220.2))) else ((bits_LeadingZeros64.f a2).bind fun t222 => (if 0 ≤ (IntKind.u64.wrap (t222)) then (if (mx (wrap64 (63 - t216)) (wrap64 ((wrap64 (t217 - 1)) - (wrap64 (a3 - t222))))) > 63 then ((round_pack.f k a0 a1 0 t217 false true).bind fun bt223 => (some (bt223.1, bt223.2))) else (if a4 = true then (if 0 ≤ (IntKind.u64.wrap (mx (wrap64 (63 - t216)) (wrap64 ((wrap64 (t217 - 1)) - (wrap64 (a3 - t222)))))) then ((round_pack.f k a0 a1 ((shr .u64 (shl .u64 a2 (IntKind.u64.wrap (t222))) (IntKind.u64.wrap (mx (wrap64 (63 - t216)) (wrap64 ((wrap64 (t217 - 1)) - (wrap64 (a3 - t222))))))) / 2) (wrap64 ((wrap64 ((wrap64 (a3 - t222)) + (mx (wrap64 (63 - t216)) (wrap64 ((wrap64 (t217 - 1)) - (wrap64 (a3 - t222))))))) + 1)) ((Go.bits .and .u64 (shr .u64 (shl .u64 a2 (IntKind.u64.wrap (t222))) (IntKind.u64.wrap (mx (wrap64 (63 - t216)) (wrap64 ((wrap64 (t217 - 1)) - (wrap64 (a3 - t222))))))) 1) == 1) true).bind fun bt225 => (some (bt225.1, bt225.2))) else (none)) else (if 0 ≤ (IntKind.u64.wrap (mx (wrap64 (63 - t216)) (wrap64 ((wrap64 (t217 - 1)) - (wrap64 (a3 - t222)))))) then ((round_pack.f k a0 a1 ((shr .u64 (shl .u64 a2 (IntKind.u64.wrap (t222))) (IntKind.u64.wrap (mx (wrap64 (63 - t216)) (wrap64 ((wrap64 (t217 - 1)) - (wrap64 (a3 - t222))))))) / 2) (wrap64 ((wrap64 ((wrap64 (a3 - t222)) + (mx (wrap64 (63 - t216)) (wrap64 ((wrap64 (t217 - 1)) - (wrap64 (a3 - t222))))))) + 1)) ((Go.bits .and .u64 (shr .u64 (shl .u64 a2 (IntKind.u64.wrap (t222))) (IntKind.u64.wrap (mx (wrap64 (63 - t216)) (wrap64 ((wrap64 (t217 - 1)) - (wrap64 (a3 - t222))))))) 1) == 1) ((Go.bits .and .u64 (shl .u64 a2 (IntKind.u64.wrap (t222))) (IntKind.u64.wrap ((shl .u64 1 (IntKind.u64.wrap (mx (wrap64 (63 - t216)) (wrap64 ((wrap64 (t217 - 1)) - (wrap64 (a3 - t222))))))) - 1))) != 0)).bind fun bt227 => (some (bt227.1, bt227.2))) else (none)))) else (none)))))) = some (r1, r2) := by rw [if_pos rfl] at H; exact H
  clear H
  have H := H1
  clear H1
  replace H := Option.bind_eq_some_iff.mp H
  obtain ⟨t219, A80, H⟩ := H
  replace H : (if t219 = true then (some (0, some 1)) else (if a2 = 0 then ((bits_Zero.f k a1 a0).bind fun bt220 => (some (bt220.1, bt220.2))) else ((bits_LeadingZeros64.f a2).bind fun t222 => (if 0 ≤ (IntKind.u64.wrap (t222)) then (if (mx (wrap64 (63 - t216)) (wrap64 ((wrap64 (t217 - 1)) - (wrap64 (a3 - t222))))) > 63 then ((round_pack.f k a0 a1 0 t217 false true).bind fun bt223 => (some (bt223.1, bt223.2))) else (if a4 = true then (if 0 ≤ (IntKind.u64.wrap (mx (wrap64 (63 - t216)) (wrap64 ((wrap64 (t217 - 1)) - (wrap64 (a3 - t222)))))) then ((round_pack.f k a0 a1 ((shr .u64 (shl .u64 a2 (IntKind.u64.wrap (t222))) (IntKind.u64.wrap (mx (wrap64 (63 - t216)) (wrap64 ((wrap64 (t217 - 1)) - (wrap64 (a3 - t222))))))) / 2) (wrap64 ((wrap64 ((wrap64 (a3 - t222)) + (mx (wrap64 (63 - t216)) (wrap64 ((wrap64 (t217 - 1)) - (wrap64 (a3 - t222))))))) + 1)) ((Go.bits .and .u64 (shr .u64 (shl .u64 a2 (IntKind.u64.wrap (t222))) (IntKind.u64.wrap (mx (wrap64 (63 - t216)) (wrap64 ((wrap64 (t217 - 1)) - (wrap64 (a3 - t222))))))) 1) == 1) true).bind fun bt225 => (some (bt225.1, bt225.2))) else (none)) else (if 0 ≤ (IntKind.u64.wrap (mx (wrap64 (63 - t216)) (wrap64 ((wrap64 (t217 - 1)) - (wrap64 (a3 - t222)))))) then ((round_pack.f k a0 a1 ((shr .u64 (shl .u64 a2 (IntKind.u64.wrap (t222))) (IntKind.u64.wrap (mx (wrap64 (63 - t216)) (wrap64 ((wrap64 (t217 - 1)) - (wrap64 (a3 - t222))))))) / 2) (wrap64 ((wrap64 ((wrap64 (a3 - t222)) + (mx (wrap64 (63 - t216)) (wrap64 ((wrap64 (t217 - 1)) - (wrap64 (a3 - t222))))))) + 1)) ((Go.bits .and .u64 (shr .u64 (shl .u64 a2 (IntKind.u64.wrap (t222))) (IntKind.u64.wrap (mx (wrap64 (63 - t216)) (wrap64 ((wrap64 (t217 - 1)) - (wrap64 (a3 - t222))))))) 1) == 1) ((Go.bits .and .u64 (shl .u64 a2 (IntKind.u64.wrap (t222))) (IntKind.u64.wrap ((shl .u64 1 (IntKind.u64.wrap (mx (wrap64 (63 - t216)) (wrap64 ((wrap64 (t217 - 1)) - (wrap64 (a3 - t222))))))) - 1))) != 0)).bind fun bt227 => (some (bt227.1, bt227.2))) else (none)))) else (none))))) = some (r1, r2) := H
  have A8 := Aside0.mk A80
  clear A80
  by_cases c9 : t219 = true
  ·subst c9
   have H1 : (some (0, some 1)) = some (r1, r2) := by rw [if_pos rfl] at H; exact H
   clear H
   have H := H1
   clear H1
   simp only [Option.some.injEq, Prod.mk.injEq] at H
   obtain ⟨rfl, rfl⟩ := H
   go_enter Tryd.func13, Tryd.ntmps13
   go_wp2_with (first | ((with_reducible refine gate_callee (f := 23) rfl ?_); refine goesL_ (some 19) rfl rfl Tryd.func23 (by kernel_rfl) rfl #[.int .i64 a0] rfl (by (try simp only [List.map_toArray, List.map_cons, List.map_nil]); first | done | rfl | (simp only [List.length_drop, List.length_take]; rfl)) ?_; (with_reducible refine (round_format.calls a0 t216 t217 true _ A6.out).mono ?_); rintro e w' ⟨rfl, ⟨nd, rfl⟩⟩; refine ⟨_, rfl, ?_⟩) | ((with_reducible refine gate_callee (f := 25) rfl ?_); refine goesL_ (some 29) rfl rfl Tryd.func25 (by kernel_rfl) rfl #[.int .i64 a3] rfl (by (try simp only [List.map_toArray, List.map_cons, List.map_nil]); first | done | rfl | (simp only [List.length_drop, List.length_take]; rfl)) ?_; (with_reducible refine (round_far.calls a3 true _ A8.out).mono ?_); rintro e w' ⟨rfl, ⟨nd, rfl⟩⟩; refine ⟨_, rfl, ?_⟩))
   go_ret2
   exact ⟨by first | rfl | (simp [errW_none, errW_some] <;> rfl) | (simp [*, errW_none, errW_some] <;> rfl), by repeat (first | (with_reducible first | exact HB.out | apply below_alloc | apply pw_below_drewN | apply below_drew1) | exact HB.out)⟩
  ·replace c9 := Bool.eq_false_iff.mpr c9
   subst c9
   have H1 : (if a2 = 0 then ((bits_Zero.f k a1 a0).bind fun bt220 => (some (bt220.1, bt220.2))) else ((bits_LeadingZeros64.f a2).bind fun t222 => (if 0 ≤ (IntKind.u64.wrap (t222)) then (if (mx (wrap64 (63 - t216)) (wrap64 ((wrap64 (t217 - 1)) - (wrap64 (a3 - t222))))) > 63 then ((round_pack.f k a0 a1 0 t217 false true).bind fun bt223 => (some (bt223.1, bt223.2))) else (if a4 = true then (if 0 ≤ (IntKind.u64.wrap (mx (wrap64 (63 - t216)) (wrap64 ((wrap64 (t217 - 1)) - (wrap64 (a3 - t222)))))) then ((round_pack.f k a0 a1 ((shr .u64 (shl .u64 a2 (IntKind.u64.wrap (t222))) (IntKind.u64.wrap (mx (wrap64 (63 - t216)) (wrap64 ((wrap64 (t217 - 1)) - (wrap64 (a3 - t222))))))) / 2) (wrap64 ((wrap64 ((wrap64 (a3 - t222)) + (mx (wrap64 (63 - t216)) (wrap64 ((wrap64 (t217 - 1)) - (wrap64 (a3 - t222))))))) + 1)) ((Go.bits .and .u64 (shr .u64 (shl .u64 a2 (IntKind.u64.wrap (t222))) (IntKind.u64.wrap (mx (wrap64 (63 - t216)) (wrap64 ((wrap64 (t217 - 1)) - (wrap64 (a3 - t222))))))) 1) == 1) true).bind fun bt225 => (some (bt225.1, bt225.2))) else (none)) else (if 0 ≤ (IntKind.u64.wrap (mx (wrap64 (63 - t216)) (wrap64 ((wrap64 (t217 - 1)) - (wrap64 (a3 - t222)))))) then ((round_pack.f k a0 a1 ((shr .u64 (shl .u64 a2 (IntKind.u64.wrap (t222))) (IntKind.u64.wrap (mx (wrap64 (63 - t216)) (wrap64 ((wrap64 (t217 - 1)) - (wrap64 (a3 - t222))))))) / 2) (wrap64 ((wrap64 ((wrap64 (a3 - t222)) + (mx (wrap64 (63 - t216)) (wrap64 ((wrap64 (t217 - 1)) - (wrap64 (a3 - t222))))))) + 1)) ((Go.bits .and .u64 (shr .u64 (shl .u64 a2 (IntKind.u64.wrap (t222))) (IntKind.u64.wrap (mx (wrap64 (63 - t216)) (wrap64 ((wrap64 (t217 - 1)) - (wrap64 (a3 - t222))))))) 1) == 1) ((Go.bits .and .u64 (shl .u64 a2 (IntKind.u64.wrap (t222))) (IntKind.u64.wrap ((shl .u64 1 (IntKind.u64.wrap (mx (wrap64 (63 - t216)) (wrap64 ((wrap64 (t217 - 1)) - (wrap64 (a3 - t222))))))) - 1))) != 0)).bind fun bt227 => (some (bt227.1, bt227.2))) else (none)))) else (none)))) = some (r1, r2) := by rw [if_neg (show ¬ (false = true) by decide)] at H; exact H
   clear H
   have H := H1
   clear H1
   by_cases c10 : a2 = 0
   ·rw [if_pos c10] at H
    have c10b0 : (a2 == 0) = true := beq_iff_eq.mpr c10
    have c10b1 : (a2 != 0) = false := bne_eq_false_iff_eq.mpr c10
    clear c10
    replace H := Option.bind_eq_some_iff.mp H
    obtain ⟨⟨t220, t221⟩, A110, H⟩ := H
    replace H : (some (t220, t221)) = some (r1, r2) := H
    have A11 := Aside0.mk A110
    clear A110
    simp only [Option.some.injEq, Prod.mk.injEq] at H
    obtain ⟨rfl, rfl⟩ := H
    go_enter Tryd.func13, Tryd.ntmps13
    go_wp2_with (first | ((with_reducible refine gate_callee (f := 23) rfl ?_); refine goesL_ (some 19) rfl rfl Tryd.func23 (by kernel_rfl) rfl #[.int .i64 a0] rfl (by (try simp only [List.map_toArray, List.map_cons, List.map_nil]); first | done | rfl | (simp only [List.length_drop, List.length_take]; rfl)) ?_; (with_reducible refine (round_format.calls a0 t216 t217 true _ A6.out).mono ?_); rintro e w' ⟨rfl, ⟨nd, rfl⟩⟩; refine ⟨_, rfl, ?_⟩) | ((with_reducible refine gate_callee (f := 25) rfl ?_); refine goesL_ (some 29) rfl rfl Tryd.func25 (by kernel_rfl) rfl #[.int .i64 a3] rfl (by (try simp only [List.map_toArray, List.map_cons, List.map_nil]); first | done | rfl | (simp only [List.length_drop, List.length_take]; rfl)) ?_; (with_reducible refine (round_far.calls a3 false _ A8.out).mono ?_); rintro e w' ⟨rfl, ⟨nd, rfl⟩⟩; refine ⟨_, rfl, ?_⟩) | ((with_reducible refine gate_callee (f := 26) rfl ?_); refine goesL_ (some 36) rfl rfl Tryd.func26 (by kernel_rfl) rfl #[.bool a1, .int .i64 a0] rfl (by (try simp only [List.map_toArray, List.map_cons, List.map_nil]); first | done | rfl | (simp only [List.length_drop, List.length_take]; rfl)) ?_; (with_reducible refine (bits_Zero.calls k a1 a0 t220 t221 _ ?side1 A11.out).mono ?_); (case side1 => exact Laid_DB64.of_below HL_DB64.out (by repeat (first | (with_reducible first | exact HB.out | apply below_alloc | apply pw_below_drewN | apply below_drew1) | exact HB.out))); rintro e w12 ⟨rfl, hb⟩; refine ⟨_, rfl, ?_⟩; have n0_ := Aside0.mk (below_step (by repeat (first | (with_reducible first | exact HB.out | apply below_alloc | apply pw_below_drewN | apply below_drew1) | exact HB.out)) hb); clear HB; have HB := n0_; clear n0_; (try clear hb); (try clear hb2); (try clear hk); (try clear hi); (try simp only [errW_none, errW_some])))
    go_ret2
    exact ⟨by first | rfl | (simp [errW_none, errW_some] <;> rfl) | (simp [*, errW_none, errW_some] <;> rfl), by repeat (first | (with_reducible first | exact HB.out | apply below_alloc | apply pw_below_drewN | apply below_drew1) | exact HB.out)⟩
   ·rw [if_neg c10] at H
    have c10b0 : (a2 == 0) = false := beq_eq_false_iff_ne.mpr c10
    have c10b1 : (a2 != 0) = true := bne_iff_ne.mpr c10
    replace H := Option.bind_eq_some_iff.mp H
    obtain ⟨t222, A130, H⟩ := H
    replace H : (if 0 ≤ (IntKind.u64.wrap (t222)) then (if (mx (wrap64 (63 - t216)) (wrap64 ((wrap64 (t217 - 1)) - (wrap64 (a3 - t222))))) > 63 then ((round_pack.f k a0 a1 0 t217 false true).bind fun bt223 => (some (bt223.1, bt223.2))) else (if a4 = true then (if 0 ≤ (IntKind.u64.wrap (mx (wrap64 (63 - t216)) (wrap64 ((wrap64 (t217 - 1)) - (wrap64 (a3 - t222)))))) then ((round_pack.f k a0 a1 ((shr .u64 (shl .u64 a2 (IntKind.u64.wrap (t222))) (IntKind.u64.wrap (mx (wrap64 (63 - t216)) (wrap64 ((wrap64 (t217 - 1)) - (wrap64 (a3 - t222))))))) / 2) (wrap64 ((wrap64 ((wrap64 (a3 - t222)) + (mx (wrap64 (63 - t216)) (wrap64 ((wrap64 (t217 - 1)) - (wrap64 (a3 - t222))))))) + 1)) ((Go.bits .and .u64 (shr .u64 (shl .u64 a2 (IntKind.u64.wrap (t222))) (IntKind.u64.wrap (mx (wrap64 (63 - t216)) (wrap64 ((wrap64 (t217 - 1)) - (wrap64 (a3 - t222))))))) 1) == 1) true).bind fun bt225 => (some (bt225.1, bt225.2))) else (none)) else (if 0 ≤ (IntKind.u64.wrap (mx (wrap64 (63 - t216)) (wrap64 ((wrap64 (t217 - 1)) - (wrap64 (a3 - t222)))))) then ((round_pack.f k a0 a1 ((shr .u64 (shl .u64 a2 (IntKind.u64.wrap (t222))) (IntKind.u64.wrap (mx (wrap64 (63 - t216)) (wrap64 ((wrap64 (t217 - 1)) - (wrap64 (a3 - t222))))))) / 2) (wrap64 ((wrap64 ((wrap64 (a3 - t222)) + (mx (wrap64 (63 - t216)) (wrap64 ((wrap64 (t217 - 1)) - (wrap64 (a3 - t222))))))) + 1)) ((Go.bits .and .u64 (shr .u64 (shl .u64 a2 (IntKind.u64.wrap (t222))) (IntKind.u64.wrap (mx (wrap64 (63 - t216)) (wrap64 ((wrap64 (t217 - 1)) - (wrap64 (a3 - t222))))))) 1) == 1) ((Go.bits .and .u64 (shl .u64 a2 (IntKind.u64.wrap (t222))) (IntKind.u64.wrap ((shl .u64 1 (IntKind.u64.wrap (mx (wrap64 (63 - t216)) (wrap64 ((wrap64 (t217 - 1)) - (wrap64 (a3 - t222))))))) - 1))) != 0)).bind fun bt227 => (some (bt227.1, bt227.2))) else (none)))) else (none)) = some (r1, r2) := H
    have A13 := Aside0.mk A130
    clear A130
    by_cases c14 : 0 ≤ (IntKind.u64.wrap (t222))
    ·rw [if_pos c14] at H
     have c14b0 := eq_true c14
     have c14b1 : decide (0 ≤ (IntKind.u64.wrap (t222))) = true := decide_eq_true c14
     clear c14
     obtain ⟨ji15, hji15⟩ : ∃ j_ : Int, (shl .u64 a2 (IntKind.u64.wrap (t222))) = j_ := ⟨_, rfl⟩
     replace H : (if (mx (wrap64 (63 - t216)) (wrap64 ((wrap64 (t217 - 1)) - (wrap64 (a3 - t222))))) > 63 then ((round_pack.f k a0 a1 0 t217 false true).bind fun bt223 => (some (bt223.1, bt223.2))) else (if a4 = true then (if 0 ≤ (IntKind.u64.wrap (mx (wrap64 (63 - t216)) (wrap64 ((wrap64 (t217 - 1)) - (wrap64 (a3 - t222)))))) then ((round_pack.f k a0 a1 ((shr .u64 (ji15) (IntKind.u64.wrap (mx (wrap64 (63 - t216)) (wrap64 ((wrap64 (t217 - 1)) - (wrap64 (a3 - t222))))))) / 2) (wrap64 ((wrap64 ((wrap64 (a3 - t222)) + (mx (wrap64 (63 - t216)) (wrap64 ((wrap64 (t217 - 1)) - (wrap64 (a3 - t222))))))) + 1)) ((Go.bits .and .u64 (shr .u64 (ji15) (IntKind.u64.wrap (mx (wrap64 (63 - t216)) (wrap64 ((wrap64 (t217 - 1)) - (wrap64 (a3 - t222))))))) 1) == 1) true).bind fun bt225 => (some (bt225.1, bt225.2))) else (none)) else (if 0 ≤ (IntKind.u64.wrap (mx (wrap64 (63 - t216)) (wrap64 ((wrap64 (t217 - 1)) - (wrap64 (a3 - t222)))))) then ((round_pack.f k a0 a1 ((shr .u64 (ji15) (IntKind.u64.wrap (mx (wrap64 (63 - t216)) (wrap64 ((wrap64 (t217 - 1)) - (wrap64 (a3 - t222))))))) / 2) (wrap64 ((wrap64 ((wrap64 (a3 - t222)) + (mx (wrap64 (63 - t216)) (wrap64 ((wrap64 (t217 - 1)) - (wrap64 (a3 - t222))))))) + 1)) ((Go.bits .and .u64 (shr .u64 (ji15) (IntKind.u64.wrap (mx (wrap64 (63 - t216)) (wrap64 ((wrap64 (t217 - 1)) - (wrap64 (a3 - t222))))))) 1) == 1) ((Go.bits .and .u64 (ji15) (IntKind.u64.wrap ((shl .u64 1 (IntKind.u64.wrap (mx (wrap64 (63 - t216)) (wrap64 ((wrap64 (t217 - 1)) - (wrap64 (a3 - t222))))))) - 1))) != 0)).bind fun bt227 => (some (bt227.1, bt227.2))) else (none)))) = some (r1, r2) := by first | (rw [hji15] at H; exact H) | (simp only [hji15] at H ⊢; exact H)
     (try rw [hji15] at A6)
     (try rw [hji15] at A8)
     (try rw [hji15] at A13)
     have hji15_ : (IntKind.u64.wrap (a2 * 2 ^ min (IntKind.u64.wrap (t222)).toNat 64)) = ji15 := hji15
     have hji15z : (IntKind.u64.wrap (t222)) ≤ 64 → (IntKind.u64.wrap (a2 * 2 ^ (IntKind.u64.wrap (t222)).toNat)) = ji15 := shl_small hji15
     obtain ⟨ji16, hji16⟩ : ∃ j_ : Int, (mx (wrap64 (63 - t216)) (wrap64 ((wrap64 (t217 - 1)) - (wrap64 (a3 - t222))))) = j_ := ⟨_, rfl⟩
     replace H : (if (ji16) > 63 then ((round_pack.f k a0 a1 0 t217 false true).bind fun bt223 => (some (bt223.1, bt223.2))) else (if a4 = true then (if 0 ≤ (IntKind.u64.wrap (ji16)) then ((round_pack.f k a0 a1 ((shr .u64 (ji15) (IntKind.u64.wrap (ji16))) / 2) (wrap64 ((wrap64 ((wrap64 (a3 - t222)) + (ji16))) + 1)) ((Go.bits .and .u64 (shr .u64 (ji15) (IntKind.u64.wrap (ji16))) 1) == 1) true).bind fun bt225 => (some (bt225.1, bt225.2))) else (none)) else (if 0 ≤ (IntKind.u64.wrap (ji16)) then ((round_pack.f k a0 a1 ((shr .u64 (ji15) (IntKind.u64.wrap (ji16))) / 2) (wrap64 ((wrap64 ((wrap64 (a3 - t222)) + (ji16))) + 1)) ((Go.bits .and .u64 (shr .u64 (ji15) (IntKind.u64.wrap (ji16))) 1) == 1) ((Go.bits .and .u64 (ji15) (IntKind.u64.wrap ((shl .u64 1 (IntKind.u64.wrap (ji16))) - 1))) != 0)).bind fun bt227 => (some (bt227.1, bt227.2))) else (none)))) = some (r1, r2) := by first | (rw [hji16] at H; exact H) | (simp only [hji16] at H ⊢; exact H)
     (try rw [hji16] at A6)
     (try rw [hji16] at A8)
     (try rw [hji16] at A13)
     have hji16_ : (if (wrap64 (63 - t216)) < (wrap64 ((wrap64 (t217 - 1)) - (wrap64 (a3 - t222)))) then (wrap64 ((wrap64 (t217 - 1)) - (wrap64 (a3 - t222)))) else (wrap64 (63 - t216))) = ji16 := hji16
     by_cases c17 : (ji16) > 63
     ·rw [if_pos c17] at H
      have c17b0 : decide (63 < (ji16)) = true := decide_eq_true c17
      clear c17
      replace H := Option.bind_eq_some_iff.mp H
      obtain ⟨⟨t223, t224⟩, A180, H⟩ := H
      replace H : (some (t223, t224)) = some (r1, r2) := H
      have A18 := Aside0.mk A180
      clear A180
      simp only [Option.some.injEq, Prod.mk.injEq] at H
      obtain ⟨rfl, rfl⟩ := H
      go_enter Tryd.func13, Tryd.ntmps13
      go_wp2_with (first | ((with_reducible refine gate_callee (f := 23) rfl ?_); refine goesL_ (some 19) rfl rfl Tryd.func23 (by kernel_rfl) rfl #[.int .i64 a0] rfl (by (try simp only [List.map_toArray, List.map_cons, List.map_nil]); first | done | rfl | (simp only [List.length_drop, List.length_take]; rfl)) ?_; (with_reducible refine (round_format.calls a0 t216 t217 true _ A6.out).mono ?_); rintro e w' ⟨rfl, ⟨nd, rfl⟩⟩; refine ⟨_, rfl, ?_⟩) | ((with_reducible refine gate_callee (f := 25) rfl ?_); refine goesL_ (some 29) rfl rfl Tryd.func25 (by kernel_rfl) rfl #[.int .i64 a3] rfl (by (try simp only [List.map_toArray, List.map_cons, List.map_nil]); first | done | rfl | (simp only [List.length_drop, List.length_take]; rfl)) ?_; (with_reducible refine (round_far.calls a3 false _ A8.out).mono ?_); rintro e w' ⟨rfl, ⟨nd, rfl⟩⟩; refine ⟨_, rfl, ?_⟩) | ((with_reducible refine gate_callee (f := 37) rfl ?_); refine goesL_ (some 40) rfl rfl Tryd.func37 (by kernel_rfl) rfl #[.int .u64 a2] rfl (by (try simp only [List.map_toArray, List.map_cons, List.map_nil]); first | done | rfl | (simp only [List.length_drop, List.length_take]; rfl)) ?_; (with_reducible refine (bits_LeadingZeros64.calls a2 t222 _ A13.out).mono ?_); rintro e w19 ⟨rfl, hb⟩; refine ⟨_, rfl, ?_⟩; have n0_ := Aside0.mk (below_step (by repeat (first | (with_reducible first | exact HB.out | apply below_alloc | apply pw_below_drewN | apply below_drew1) | exact HB.out)) hb); clear HB; have HB := n0_; clear n0_; (try clear hb); (try clear hb2); (try clear hk); (try clear hi)) | ((with_reducible refine gate_callee (f := 33) rfl ?_); refine goesL_ (some 60) rfl rfl Tryd.func33 (by kernel_rfl) rfl #[.int .i64 a0, .bool a1, .int .u64 0, .int .i64 t217, .bool false, .bool true] rfl (by (try simp only [List.map_toArray, List.map_cons, List.map_nil]); first | done | rfl | (simp only [List.length_drop, List.length_take]; rfl)) ?_; (with_reducible refine (round_pack.calls k a0 a1 0 t217 false true t223 t224 _ ?side1 A18.out).mono ?_); (case side1 => exact Laid_DB64.of_below HL_DB64.out (by repeat (first | (with_reducible first | exact HB.out | apply below_alloc | apply pw_below_drewN | apply below_drew1) | exact HB.out))); rintro e w20 ⟨rfl, hb⟩; refine ⟨_, rfl, ?_⟩; have n0_ := Aside0.mk (below_step (by repeat (first | (with_reducible first | exact HB.out | apply below_alloc | apply pw_below_drewN | apply below_drew1) | exact HB.out)) hb); clear HB; have HB := n0_; clear n0_; (try clear hb); (try clear hb2); (try clear hk); (try clear hi); (try simp only [errW_none, errW_some])))
      go_ret2
      exact ⟨by first | rfl | (simp [errW_none, errW_some] <;> rfl) | (simp only [← hji15, ← hji16]; first | rfl | (simp [errW_none, errW_some] <;> rfl)) | (simp [*, errW_none, errW_some] <;> rfl), by repeat (first | (with_reducible first | exact HB.out | apply below_alloc | apply pw_below_drewN | apply below_drew1) | exact HB.out)⟩
     ·rw [if_neg c17] at H
      have c17b0 : decide (63 < (ji16)) = false := decide_eq_false c17
      clear c17
      by_cases c21 : a4 = true
      ·subst c21
       have H1 : (if 0 ≤ (IntKind.u64.wrap (ji16)) then ((round_pack.f k a0 a1 ((shr .u64 (ji15) (IntKind.u64.wrap (ji16))) / 2) (wrap64 ((wrap64 ((wrap64 (a3 - t222)) + (ji16))) + 1)) ((Go.bits .and .u64 (shr .u64 (ji15) (IntKind.u64.wrap (ji16))) 1) == 1) true).bind fun bt225 => (some (bt225.1, bt225.2))) else (none)) = some (r1, r2) := by rw [if_pos rfl] at H; exact H
       clear H
       have H := H1
       clear H1
       by_cases c22 : 0 ≤ (IntKind.u64.wrap (ji16))
       ·rw [if_pos c22] at H
        have c22b0 := eq_true c22
        have c22b1 : decide (0 ≤ (IntKind.u64.wrap (ji16))) = true := decide_eq_true c22
        clear c22
        obtain ⟨ji23, hji23⟩ : ∃ j_ : Int, (shr .u64 (ji15) (IntKind.u64.wrap (ji16))) = j_ := ⟨_, rfl⟩
        replace H : ((round_pack.f k a0 a1 ((ji23) / 2) (wrap64 ((wrap64 ((wrap64 (a3 - t222)) + (ji16))) + 1)) ((Go.bits .and .u64 (ji23) 1) == 1) true).bind fun bt225 => (some (bt225.1, bt225.2))) = some (r1, r2) := by first | (rw [hji23] at H; exact H) | (simp only [hji23] at H ⊢; exact H)
        (try rw [hji23] at A6)
        (try rw [hji23] at A8)
        (try rw [hji23] at A13)
        have hji23_ : ((ji15) / 2 ^ min (IntKind.u64.wrap (ji16)).toNat 64) = ji23 := hji23
        have hji23z : (IntKind.u64.wrap (ji16)) ≤ 64 → ((ji15) / 2 ^ (IntKind.u64.wrap (ji16)).toNat) = ji23 := shr_small hji23
        obtain ⟨ji24, hji24⟩ : ∃ j_ : Int, (Go.bits .and .u64 (ji23) 1) = j_ := ⟨_, rfl⟩
        replace H : ((round_pack.f k a0 a1 ((ji23) / 2) (wrap64 ((wrap64 ((wrap64 (a3 - t222)) + (ji16))) + 1)) ((ji24) == 1) true).bind fun bt225 => (some (bt225.1, bt225.2))) = some (r1, r2) := by first | (rw [hji24] at H; exact H) | (simp only [hji24] at H ⊢; exact H)
        (try rw [hji24] at A6)
        (try rw [hji24] at A8)
        (try rw [hji24] at A13)
        replace H := Option.bind_eq_some_iff.mp H
        obtain ⟨⟨t225, t226⟩, A250, H⟩ := H
        replace H : (some (t225, t226)) = some (r1, r2) := H
        have A25 := Aside0.mk A250
        clear A250
        simp only [Option.some.injEq, Prod.mk.injEq] at H
        obtain ⟨rfl, rfl⟩ := H
        go_enter Tryd.func13, Tryd.ntmps13
        go_wp2_with (first | ((with_reducible refine gate_callee (f := 23) rfl ?_); refine goesL_ (some 19) rfl rfl Tryd.func23 (by kernel_rfl) rfl #[.int .i64 a0] rfl (by (try simp only [List.map_toArray, List.map_cons, List.map_nil]); first | done | rfl | (simp only [List.length_drop, List.length_take]; rfl)) ?_; (with_reducible refine (round_format.calls a0 t216 t217 true _ A6.out).mono ?_); rintro e w' ⟨rfl, ⟨nd, rfl⟩⟩; refine ⟨_, rfl, ?_⟩) | ((with_reducible refine gate_callee (f := 25) rfl ?_); refine goesL_ (some 29) rfl rfl Tryd.func25 (by kernel_rfl) rfl #[.int .i64 a3] rfl (by (try simp only [List.map_toArray, List.map_cons, List.map_nil]); first | done | rfl | (simp only [List.length_drop, List.length_take]; rfl)) ?_; (with_reducible refine (round_far.calls a3 false _ A8.out).mono ?_); rintro e w' ⟨rfl, ⟨nd, rfl⟩⟩; refine ⟨_, rfl, ?_⟩) | ((with_reducible refine gate_callee (f := 37) rfl ?_); refine goesL_ (some 40) rfl rfl Tryd.func37 (by kernel_rfl) rfl #[.int .u64 a2] rfl (by (try simp only [List.map_toArray, List.map_cons, List.map_nil]); first | done | rfl | (simp only [List.length_drop, List.length_take]; rfl)) ?_; (with_reducible refine (bits_LeadingZeros64.calls a2 t222 _ A13.out).mono ?_); rintro e w26 ⟨rfl, hb⟩; refine ⟨_, rfl, ?_⟩; have n0_ := Aside0.mk (below_step (by repeat (first | (with_reducible first | exact HB.out | apply below_alloc | apply pw_below_drewN | apply below_drew1) | exact HB.out)) hb); clear HB; have HB := n0_; clear n0_; (try clear hb); (try clear hb2); (try clear hk); (try clear hi)) | ((with_reducible refine gate_callee (f := 33) rfl ?_); refine goesL_ (some 89) rfl rfl Tryd.func33 (by kernel_rfl) rfl #[.int .i64 a0, .bool a1, .int .u64 ((ji23) / 2), .int .i64 (wrap64 ((wrap64 ((wrap64 (a3 - t222)) + (ji16))) + 1)), .bool ((ji24) == 1), .bool true] rfl (by (try simp only [List.map_toArray, List.map_cons, List.map_nil]); first | done | (simp only [hji16, hji23, hji24]; rfl) | rfl | (simp only [List.length_drop, List.length_take]; rfl)) ?_; (with_reducible refine (round_pack.calls k a0 a1 ((ji23) / 2) (wrap64 ((wrap64 ((wrap64 (a3 - t222)) + (ji16))) + 1)) ((ji24) == 1) true t225 t226 _ ?side1 A25.out).mono ?_); (case side1 => exact Laid_DB64.of_below HL_DB64.out (by repeat (first | (with_reducible first | exact HB.out | apply below_alloc | apply pw_below_drewN | apply below_drew1) | exact HB.out))); rintro e w27 ⟨rfl, hb⟩; refine ⟨_, rfl, ?_⟩; have n0_ := Aside0.mk (below_step (by repeat (first | (with_reducible first | exact HB.out | apply below_alloc | apply pw_below_drewN | apply below_drew1) | exact HB.out)) hb); clear HB; have HB := n0_; clear n0_; (try clear hb); (try clear hb2); (try clear hk); (try clear hi); (try simp only [errW_none, errW_some])))
        go_ret2
        exact ⟨by first | rfl | (simp [errW_none, errW_some] <;> rfl) | (simp only [← hji15, ← hji16, ← hji23, ← hji24]; first | rfl | (simp [errW_none, errW_some] <;> rfl)) | (simp [*, errW_none, errW_some] <;> rfl), by repeat (first | (with_reducible first | exact HB.out | apply below_alloc | apply pw_below_drewN | apply below_drew1) | exact HB.out)⟩
       ·rw [if_neg c22] at H
        exact absurd H (by simp)
      ·replace c21 := Bool.eq_false_iff.mpr c21
       subst c21
       have H1 : (if 0 ≤ (IntKind.u64.wrap (ji16)) then ((round_pack.f k a0 a1 ((shr .u64 (ji15) (IntKind.u64.wrap (ji16))) / 2) (wrap64 ((wrap64 ((wrap64 (a3 - t222)) + (ji16))) + 1)) ((Go.bits .and .u64 (shr .u64 (ji15) (IntKind.u64.wrap (ji16))) 1) == 1) ((Go.bits .and .u64 (ji15) (IntKind.u64.wrap ((shl .u64 1 (IntKind.u64.wrap (ji16))) - 1))) != 0)).bind fun bt227 => (some (bt227.1, bt227.2))) else (none)) = some (r1, r2) := by rw [if_neg (show ¬ (false = true) by decide)] at H; exact H
       clear H
       have H := H1
       clear H1
       by_cases c28 : 0 ≤ (IntKind.u64.wrap (ji16))
       ·rw [if_pos c28] at H
        have c28b0 := eq_true c28
        have c28b1 : decide (0 ≤ (IntKind.u64.wrap (ji16))) = true := decide_eq_true c28
        clear c28
        obtain ⟨ji29, hji29⟩ : ∃ j_ : Int, (shl .u64 1 (IntKind.u64.wrap (ji16))) = j_ := ⟨_, rfl⟩
        replace H : ((round_pack.f k a0 a1 ((shr .u64 (ji15) (IntKind.u64.wrap (ji16))) / 2) (wrap64 ((wrap64 ((wrap64 (a3 - t222)) + (ji16))) + 1)) ((Go.bits .and .u64 (shr .u64 (ji15) (IntKind.u64.wrap (ji16))) 1) == 1) ((Go.bits .and .u64 (ji15) (IntKind.u64.wrap ((ji29) - 1))) != 0)).bind fun bt227 => (some (bt227.1, bt227.2))) = some (r1, r2) := by first | (rw [hji29] at H; exact H) | (simp only [hji29] at H ⊢; exact H)
        (try rw [hji29] at A6)
        (try rw [hji29] at A8)
        (try rw [hji29] at A13)
        have hji29_ : (IntKind.u64.wrap (1 * 2 ^ min (IntKind.u64.wrap (ji16)).toNat 64)) = ji29 := hji29
        have hji29z : (IntKind.u64.wrap (ji16)) ≤ 64 → (IntKind.u64.wrap (1 * 2 ^ (IntKind.u64.wrap (ji16)).toNat)) = ji29 := shl_small hji29
        have hji29u : (IntKind.u64.wrap (2 ^ min (IntKind.u64.wrap (ji16)).toNat 64)) = ji29 := by have h_ := hji29_; rw [Int.one_mul] at h_; exact h_
        have hji29v : (IntKind.u64.wrap (ji16)) ≤ 64 → (IntKind.u64.wrap (2 ^ (IntKind.u64.wrap (ji16)).toNat)) = ji29 := fun hle_ => by have h_ := hji29z hle_; rw [Int.one_mul] at h_; exact h_
        obtain ⟨ji30, hji30⟩ : ∃ j_ : Int, (Go.bits .and .u64 (ji15) (IntKind.u64.wrap ((ji29) - 1))) = j_ := ⟨_, rfl⟩
        replace H : ((round_pack.f k a0 a1 ((shr .u64 (ji15) (IntKind.u64.wrap (ji16))) / 2) (wrap64 ((wrap64 ((wrap64 (a3 - t222)) + (ji16))) + 1)) ((Go.bits .and .u64 (shr .u64 (ji15) (IntKind.u64.wrap (ji16))) 1) == 1) ((ji30) != 0)).bind fun bt227 => (some (bt227.1, bt227.2))) = some (r1, r2) := by first | (rw [hji30] at H; exact H) | (simp only [hji30] at H ⊢; exact H)
        (try rw [hji30] at A6)
        (try rw [hji30] at A8)
        (try rw [hji30] at A13)
        have c31b0 := eq_true (of_decide_eq_true (by first | (with_reducible assumption) | assumption) : 0 ≤ (IntKind.u64.wrap (ji16)))
        obtain ⟨ji32, hji32⟩ : ∃ j_ : Int, (shr .u64 (ji15) (IntKind.u64.wrap (ji16))) = j_ := ⟨_, rfl⟩
        replace H : ((round_pack.f k a0 a1 ((ji32) / 2) (wrap64 ((wrap64 ((wrap64 (a3 - t222)) + (ji16))) + 1)) ((Go.bits .and .u64 (ji32) 1) == 1) ((ji30) != 0)).bind fun bt227 => (some (bt227.1, bt227.2))) = some (r1, r2) := by first | (rw [hji32] at H; exact H) | (simp only [hji32] at H ⊢; exact H)
        (try rw [hji32] at A6)
        (try rw [hji32] at A8)
        (try rw [hji32] at A13)
        have hji32_ : ((ji15) / 2 ^ min (IntKind.u64.wrap (ji16)).toNat 64) = ji32 := hji32
        have hji32z : (IntKind.u64.wrap (ji16)) ≤ 64 → ((ji15) / 2 ^ (IntKind.u64.wrap (ji16)).toNat) = ji32 := shr_small hji32
        obtain ⟨ji33, hji33⟩ : ∃ j_ : Int, (Go.bits .and .u64 (ji32) 1) = j_ := ⟨_, rfl⟩
        replace H : ((round_pack.f k a0 a1 ((ji32) / 2) (wrap64 ((wrap64 ((wrap64 (a3 - t222)) + (ji16))) + 1)) ((ji33) == 1) ((ji30) != 0)).bind fun bt227 => (some (bt227.1, bt227.2))) = some (r1, r2) := by first | (rw [hji33] at H; exact H) | (simp only [hji33] at H ⊢; exact H)
        (try rw [hji33] at A6)
        (try rw [hji33] at A8)
        (try rw [hji33] at A13)
        replace H := Option.bind_eq_some_iff.mp H
        obtain ⟨⟨t227, t228⟩, A340, H⟩ := H
        replace H : (some (t227, t228)) = some (r1, r2) := H
        have A34 := Aside0.mk A340
        clear A340
        simp only [Option.some.injEq, Prod.mk.injEq] at H
        obtain ⟨rfl, rfl⟩ := H
        go_enter Tryd.func13, Tryd.ntmps13
        go_wp2_with (first | ((with_reducible refine gate_callee (f := 23) rfl ?_); refine goesL_ (some 19) rfl rfl Tryd.func23 (by kernel_rfl) rfl #[.int .i64 a0] rfl (by (try simp only [List.map_toArray, List.map_cons, List.map_nil]); first | done | rfl | (simp only [List.length_drop, List.length_take]; rfl)) ?_; (with_reducible refine (round_format.calls a0 t216 t217 true _ A6.out).mono ?_); rintro e w' ⟨rfl, ⟨nd, rfl⟩⟩; refine ⟨_, rfl, ?_⟩) | ((with_reducible refine gate_callee (f := 25) rfl ?_); refine goesL_ (some 29) rfl rfl Tryd.func25 (by kernel_rfl) rfl #[.int .i64 a3] rfl (by (try simp only [List.map_toArray, List.map_cons, List.map_nil]); first | done | rfl | (simp only [List.length_drop, List.length_take]; rfl)) ?_; (with_reducible refine (round_far.calls a3 false _ A8.out).mono ?_); rintro e w' ⟨rfl, ⟨nd, rfl⟩⟩; refine ⟨_, rfl, ?_⟩) | ((with_reducible refine gate_callee (f := 37) rfl ?_); refine goesL_ (some 40) rfl rfl Tryd.func37 (by kernel_rfl) rfl #[.int .u64 a2] rfl (by (try simp only [List.map_toArray, List.map_cons, List.map_nil]); first | done | rfl | (simp only [List.length_drop, List.length_take]; rfl)) ?_; (with_reducible refine (bits_LeadingZeros64.calls a2 t222 _ A13.out).mono ?_); rintro e w35 ⟨rfl, hb⟩; refine ⟨_, rfl, ?_⟩; have n0_ := Aside0.mk (below_step (by repeat (first | (with_reducible first | exact HB.out | apply below_alloc | apply pw_below_drewN | apply below_drew1) | exact HB.out)) hb); clear HB; have HB := n0_; clear n0_; (try clear hb); (try clear hb2); (try clear hk); (try clear hi)) | ((with_reducible refine gate_callee (f := 33) rfl ?_); refine goesL_ (some 89) rfl rfl Tryd.func33 (by kernel_rfl) rfl #[.int .i64 a0, .bool a1, .int .u64 ((ji32) / 2), .int .i64 (wrap64 ((wrap64 ((wrap64 (a3 - t222)) + (ji16))) + 1)), .bool ((ji33) == 1), .bool ((ji30) != 0)] rfl (by (try simp only [List.map_toArray, List.map_cons, List.map_nil]); first | done | (simp only [hji16, hji30, hji32, hji33]; rfl) | rfl | (simp only [List.length_drop, List.length_take]; rfl)) ?_; (with_reducible refine (round_pack.calls k a0 a1 ((ji32) / 2) (wrap64 ((wrap64 ((wrap64 (a3 - t222)) + (ji16))) + 1)) ((ji33) == 1) ((ji30) != 0) t227 t228 _ ?side1 A34.out).mono ?_); (case side1 => exact Laid_DB64.of_below HL_DB64.out (by repeat (first | (with_reducible first | exact HB.out | apply below_alloc | apply pw_below_drewN | apply below_drew1) | exact HB.out))); rintro e w36 ⟨rfl, hb⟩; refine ⟨_, rfl, ?_⟩; have n0_ := Aside0.mk (below_step (by repeat (first | (with_reducible first | exact HB.out | apply below_alloc | apply pw_below_drewN | apply below_drew1) | exact HB.out)) hb); clear HB; have HB := n0_; clear n0_; (try clear hb); (try clear hb2); (try clear hk); (try clear hi); (try simp only [errW_none, errW_some])))
        go_ret2
        exact ⟨by first | rfl | (simp [errW_none, errW_some] <;> rfl) | (simp only [← hji15, ← hji16, ← hji29, ← hji30, ← hji32, ← hji33]; first | rfl | (simp [errW_none, errW_some] <;> rfl)) | (simp [*, errW_none, errW_some] <;> rfl), by repeat (first | (with_reducible first | exact HB.out | apply below_alloc | apply pw_below_drewN | apply below_drew1) | exact HB.out)⟩
       ·rw [if_neg c28] at H
        exact absurd H (by simp)
    ·rw [if_neg c14] at H
     exact absurd H (by simp)
 ·replace c7 := Bool.eq_false_iff.mpr c7
  subst c7
  have H1 : (some (0, some 5)) = some (r1, r2) := by rw [if_neg (show ¬ (false = true) by decide)] at H; exact H
  clear H
  have H := H1
  clear H1
  simp only [Option.some.injEq, Prod.mk.injEq] at H
  obtain ⟨rfl, rfl⟩ := H
  go_enter Tryd.func13, Tryd.ntmps13
  go_wp2_with (first | ((with_reducible refine gate_callee (f := 23) rfl ?_); refine goesL_ (some 19) rfl rfl Tryd.func23 (by kernel_rfl) rfl #[.int .i64 a0] rfl (by (try simp only [List.map_toArray, List.map_cons, List.map_nil]); first | done | rfl | (simp only [List.length_drop, List.length_take]; rfl)) ?_; (with_reducible refine (round_format.calls a0 t216 t217 false _ A6.out).mono ?_); rintro e w' ⟨rfl, ⟨nd, rfl⟩⟩; refine ⟨_, rfl, ?_⟩))
  go_ret2
  exact ⟨by first | rfl | (simp [errW_none, errW_some] <;> rfl) | (simp [*, errW_none, errW_some] <;> rfl), by repeat (first | (with_reducible first | exact HB.out | apply below_alloc | apply pw_below_drewN | apply below_drew1) | exact HB.out)⟩

/-! ### numerallaw12_works: function 12 -/
def numerallaw12_works.f (k : Nat)  : Option (Bool) := (round_Ratio.f k 64 false (([1] : List Int)) (([3] : List Int)) 0).bind fun bt235 => ((round_Whole.f k 64 false 9007199254740993 0 false).bind fun bt237 => ((round_Whole.f k 64 false 9007199254740993 0 true).bind fun bt239 => ((round_Whole.f k 32 true 1 128 false).bind fun bt241 => (if bt235.1 = 4599676419421066581 then (if bt235.2.isNone = true then (if bt237.1 = 4845873199050653696 then (if bt237.2.isNone = true then (if bt239.1 = 4845873199050653697 then (if bt239.2.isNone = true then (if bt241.1 = 4286578688 then ((numerallaw12_num.f bt241.2).bind fun t246 => (some (t246 == 4))) else (none)) else (none)) else (none)) else (none)) else (none)) else (none)) else (none)))))
theorem numerallaw12_works.mono : ∀ k, LeO (numerallaw12_works.f k ) (numerallaw12_works.f (k + 1) ) := by
 intro  k
 unfold numerallaw12_works.f
 repeat' first
   | (with_reducible exact round_Ratio.mono _ _ _ _ _ _)
   | (with_reducible exact round_Whole.mono _ _ _ _ _ _)
   | (with_reducible exact LeO.refl _)
   | (with_reducible exact LeO.none _)
   | (with_reducible refine LeO.ite ?_ ?_)
   | (with_reducible refine LeO.bind ?_ (fun _ => ?_))
   | exact round_Ratio.mono _ _ _ _ _ _
   | exact round_Whole.mono _ _ _ _ _ _
   | exact LeO.none _
   | refine LeO.ite ?_ ?_
   | refine LeO.bind ?_ (fun _ => ?_)
set_option maxHeartbeats 8000000 in
set_option maxRecDepth 100000 in
theorem numerallaw12_works.calls (k : Nat)  (r : Bool) (w : World) (hl_DB64 : Laid_DB64 w) (h : numerallaw12_works.f k  = some r) :
  Calls Tryd.prog 12 #[] w fun e w' => e = .returned (.bool r) ∧ Below w.heap.size w w' := by
 have hu29 := Tryd.underlying29
 have hu55 := Tryd.underlying55
 have HB := Aside0.mk (Below.refl w.heap.size w)
 have HL_DB64 := Aside0.mk hl_DB64
 clear hl_DB64
 have H : ((round_Ratio.f k 64 false (([1] : List Int)) (([3] : List Int)) 0).bind fun bt235 => ((round_Whole.f k 64 false 9007199254740993 0 false).bind fun bt237 => ((round_Whole.f k 64 false 9007199254740993 0 true).bind fun bt239 => ((round_Whole.f k 32 true 1 128 false).bind fun bt241 => (if bt235.1 = 4599676419421066581 then (if bt235.2.isNone = true then (if bt237.1 = 4845873199050653696 then (if bt237.2.isNone = true then (if bt239.1 = 4845873199050653697 then (if bt239.2.isNone = true then (if bt241.1 = 4286578688 then ((numerallaw12_num.f bt241.2).bind fun t246 => (some (t246 == 4))) else (none)) else (none)) else (none)) else (none)) else (none)) else (none)) else (none)))))) = some r := h
 clear h
 obtain ⟨y229, hy229⟩ : ∃ y_ : List Int, y_ = (([1] : List Int)) := ⟨_, rfl⟩
 replace H : ((round_Ratio.f k 64 false y229 (([3] : List Int)) 0).bind fun bt235 => ((round_Whole.f k 64 false 9007199254740993 0 false).bind fun bt237 => ((round_Whole.f k 64 false 9007199254740993 0 true).bind fun bt239 => ((round_Whole.f k 32 true 1 128 false).bind fun bt241 => (if bt235.1 = 4599676419421066581 then (if bt235.2.isNone = true then (if bt237.1 = 4845873199050653696 then (if bt237.2.isNone = true then (if bt239.1 = 4845873199050653697 then (if bt239.2.isNone = true then (if bt241.1 = 4286578688 then ((numerallaw12_num.f bt241.2).bind fun t246 => (some (t246 == 4))) else (none)) else (none)) else (none)) else (none)) else (none)) else (none)) else (none)))))) = some r := by first | (rw [hy229]; with_reducible exact H) | (have H2_ := (Option.bind_some _ _).symm.trans H; rw [hy229]; with_reducible exact H2_) | (have H2_ := (Option.bind_some _ _).symm.trans H; with_reducible exact H2_) | with_reducible exact H | (rw [hy229]; exact H) | exact H
 have Ny229 := Aside0.mk hy229
 clear hy229
 obtain ⟨y232, hy232⟩ : ∃ y_ : List Int, y_ = (([3] : List Int)) := ⟨_, rfl⟩
 replace H : ((round_Ratio.f k 64 false y229 y232 0).bind fun bt235 => ((round_Whole.f k 64 false 9007199254740993 0 false).bind fun bt237 => ((round_Whole.f k 64 false 9007199254740993 0 true).bind fun bt239 => ((round_Whole.f k 32 true 1 128 false).bind fun bt241 => (if bt235.1 = 4599676419421066581 then (if bt235.2.isNone = true then (if bt237.1 = 4845873199050653696 then (if bt237.2.isNone = true then (if bt239.1 = 4845873199050653697 then (if bt239.2.isNone = true then (if bt241.1 = 4286578688 then ((numerallaw12_num.f bt241.2).bind fun t246 => (some (t246 == 4))) else (none)) else (none)) else (none)) else (none)) else (none)) else (none)) else (none)))))) = some r := by first | (rw [hy232]; with_reducible exact H) | (have H2_ := (Option.bind_some _ _).symm.trans H; rw [hy232]; with_reducible exact H2_) | (have H2_ := (Option.bind_some _ _).symm.trans H; with_reducible exact H2_) | with_reducible exact H | (rw [hy232]; exact H) | exact H
 have Ny232 := Aside0.mk hy232
 clear hy232
 replace H := Option.bind_eq_some_iff.mp H
 obtain ⟨⟨t235, t236⟩, A10, H⟩ := H
 replace H : ((round_Whole.f k 64 false 9007199254740993 0 false).bind fun bt237 => ((round_Whole.f k 64 false 9007199254740993 0 true).bind fun bt239 => ((round_Whole.f k 32 true 1 128 false).bind fun bt241 => (if t235 = 4599676419421066581 then (if t236.isNone = true then (if bt237.1 = 4845873199050653696 then (if bt237.2.isNone = true then (if bt239.1 = 4845873199050653697 then (if bt239.2.isNone = true then (if bt241.1 = 4286578688 then ((numerallaw12_num.f bt241.2).bind fun t246 => (some (t246 == 4))) else (none)) else (none)) else (none)) else (none)) else (none)) else (none)) else (none))))) = some r := H
 have A1 := Aside0.mk A10
 clear A10
 replace H := Option.bind_eq_some_iff.mp H
 obtain ⟨⟨t237, t238⟩, A20, H⟩ := H
 replace H : ((round_Whole.f k 64 false 9007199254740993 0 true).bind fun bt239 => ((round_Whole.f k 32 true 1 128 false).bind fun bt241 => (if t235 = 4599676419421066581 then (if t236.isNone = true then (if t237 = 4845873199050653696 then (if t238.isNone = true then (if bt239.1 = 4845873199050653697 then (if bt239.2.isNone = true then (if bt241.1 = 4286578688 then ((numerallaw12_num.f bt241.2).bind fun t246 => (some (t246 == 4))) else (none)) else (none)) else (none)) else (none)) else (none)) else (none)) else (none)))) = some r := H
 have A2 := Aside0.mk A20
 clear A20
 replace H := Option.bind_eq_some_iff.mp H
 obtain ⟨⟨t239, t240⟩, A30, H⟩ := H
 replace H : ((round_Whole.f k 32 true 1 128 false).bind fun bt241 => (if t235 = 4599676419421066581 then (if t236.isNone = true then (if t237 = 4845873199050653696 then (if t238.isNone = true then (if t239 = 4845873199050653697 then (if t240.isNone = true then (if bt241.1 = 4286578688 then ((numerallaw12_num.f bt241.2).bind fun t246 => (some (t246 == 4))) else (none)) else (none)) else (none)) else (none)) else (none)) else (none)) else (none))) = some r := H
 have A3 := Aside0.mk A30
 clear A30
 replace H := Option.bind_eq_some_iff.mp H
 obtain ⟨⟨t241, t242⟩, A40, H⟩ := H
 replace H : (if t235 = 4599676419421066581 then (if t236.isNone = true then (if t237 = 4845873199050653696 then (if t238.isNone = true then (if t239 = 4845873199050653697 then (if t240.isNone = true then (if t241 = 4286578688 then ((numerallaw12_num.f t242).bind fun t246 => (some (t246 == 4))) else (none)) else (none)) else (none)) else (none)) else (none)) else (none)) else (none)) = some r := H
 have A4 := Aside0.mk A40
 clear A40
 by_cases c5 : t235 = 4599676419421066581
 ·rw [if_pos c5] at H
  have c5b0 : (t235 == 4599676419421066581) = true := beq_iff_eq.mpr c5
  have c5b1 : (t235 != 4599676419421066581) = false := bne_eq_false_iff_eq.mpr c5
  clear c5
  rcases t236 with _ | q243
  ·have H1 : (if t237 = 4845873199050653696 then (if t238.isNone = true then (if t239 = 4845873199050653697 then (if t240.isNone = true then (if t241 = 4286578688 then ((numerallaw12_num.f t242).bind fun t246 => (some (t246 == 4))) else (none)) else (none)) else (none)) else (none)) else (none)) = some r := by rw [if_pos (show (none : Option Int).isNone = true by rfl)] at H; exact H
   clear H
   have H := H1
   clear H1
   try simp only [errW_none, errW_some]
   by_cases c6 : t237 = 4845873199050653696
   ·rw [if_pos c6] at H
    have c6b0 : (t237 == 4845873199050653696) = true := beq_iff_eq.mpr c6
    have c6b1 : (t237 != 4845873199050653696) = false := bne_eq_false_iff_eq.mpr c6
    clear c6
    rcases t238 with _ | q244
    ·have H1 : (if t239 = 4845873199050653697 then (if t240.isNone = true then (if t241 = 4286578688 then ((numerallaw12_num.f t242).bind fun t246 => (some (t246 == 4))) else (none)) else (none)) else (none)) = some r := by rw [if_pos (show (none : Option Int).isNone = true by rfl)] at H; exact H
     clear H
     have H := H1
     clear H1
     try simp only [errW_none, errW_some]
     by_cases c7 : t239 = 4845873199050653697
     ·rw [if_pos c7] at H
      have c7b0 : (t239 == 4845873199050653697) = true := beq_iff_eq.mpr c7
      have c7b1 : (t239 != 4845873199050653697) = false := bne_eq_false_iff_eq.mpr c7
      clear c7
      rcases t240 with _ | q245
      ·have H1 : (if t241 = 4286578688 then ((numerallaw12_num.f t242).bind fun t246 => (some (t246 == 4))) else (none)) = some r := by rw [if_pos (show (none : Option Int).isNone = true by rfl)] at H; exact H
       clear H
       have H := H1
       clear H1
       try simp only [errW_none, errW_some]
       by_cases c8 : t241 = 4286578688
       ·rw [if_pos c8] at H
        have c8b0 : (t241 == 4286578688) = true := beq_iff_eq.mpr c8
        have c8b1 : (t241 != 4286578688) = false := bne_eq_false_iff_eq.mpr c8
        clear c8
        replace H := Option.bind_eq_some_iff.mp H
        obtain ⟨t246, A90, H⟩ := H
        replace H : (some (t246 == 4)) = some r := H
        have A9 := Aside0.mk A90
        clear A90
        obtain rfl := Option.some.inj H
        go_enter Tryd.func12, Tryd.ntmps12
        go_wp2_with (first | ((with_reducible refine gate_dst (N := 10) rfl ?_); refine Kd.R_lit (Kd.int .u64) _ 27 ?hg (N := 10) ?hd (xs := ([1] : List Int)) (inner := [.int .u64 1]) (ok := fun _ => True) (okp := fun _ => True) ?hr ?hp (fun _ hk => hk) trivial (Below.refl _ _) (Nat.le_refl _) (by simp) ?_; (case hd => rfl); (case hg => rfl); (case hr => first | (go_simp; done) | (go_simp; rfl)); (case hp => exact (Reps.one (show Kd.M (Kd.int .u64) _ _ _ 1 [.int .u64 1] from rfl) (Reps.none _ _))); intro v230 w10 ho11 hb hg_ hnew_; clear hg_ hnew_; (first | rw [← Ny229.out] at ho11 | (simp only [Int.reduceToNat] at ho11; rw [← Ny229.out] at ho11)); have n0_ := Aside0.mk (Kd.R_lower ho11 (below_size (by repeat (first | (with_reducible first | exact HB.out | apply below_alloc | apply pw_below_drewN | apply below_drew1) | exact HB.out)))); have n1_ := Aside0.mk (below_step (by repeat (first | (with_reducible first | exact HB.out | apply below_alloc | apply pw_below_drewN | apply below_drew1) | exact HB.out)) hb); clear HB; have HO231 := n0_; have HB := n1_; clear n0_ n1_; clear hb ho11) | ((with_reducible refine gate_dst (N := 11) rfl ?_); refine Kd.R_lit (Kd.int .u64) _ 27 ?hg (N := 11) ?hd (xs := ([3] : List Int)) (inner := [.int .u64 3]) (ok := fun _ => True) (okp := fun _ => True) ?hr ?hp (fun _ hk => hk) trivial (Below.refl _ _) (Nat.le_refl _) (by simp) ?_; (case hd => rfl); (case hg => rfl); (case hr => first | (go_simp; done) | (go_simp; rfl)); (case hp => exact (Reps.one (show Kd.M (Kd.int .u64) _ _ _ 3 [.int .u64 3] from rfl) (Reps.none _ _))); intro v233 w12 ho13 hb hg_ hnew_; clear hg_ hnew_; (first | rw [← Ny232.out] at ho13 | (simp only [Int.reduceToNat] at ho13; rw [← Ny232.out] at ho13)); have n0_ := Aside0.mk (Kd.R_elder' (by (with_reducible repeat (first | apply Kd.R_alloc | apply Kd.R_drewN | apply Kd.R_drew)); exact HO231.out) (Kd.R_base ho13) hb); have n1_ := Aside0.mk (Kd.R_lower (Kd.R_new' ho13 (Kd.R_lt (by (with_reducible repeat (first | apply Kd.R_alloc | apply Kd.R_drewN | apply Kd.R_drew)); exact HO231.out))) (below_size (by repeat (first | (with_reducible first | exact HB.out | apply below_alloc | apply pw_below_drewN | apply below_drew1) | exact HB.out)))); have n2_ := Aside0.mk (below_step (by repeat (first | (with_reducible first | exact HB.out | apply below_alloc | apply pw_below_drewN | apply below_drew1) | exact HB.out)) hb); clear HO231; clear HB; have HO231 := n0_; have HO234 := n1_; have HB := n2_; clear n0_ n1_ n2_; clear hb ho13; obtain ⟨Ao14, co14, eo14⟩ := Kd.R_slice HO231.out; subst eo14; obtain ⟨Ao15, co15, eo15⟩ := Kd.R_slice HO234.out; subst eo15) | ((with_reducible refine gate_callee (f := 8) rfl ?_); refine goesL_ (some 12) rfl rfl Tryd.func8 (by kernel_rfl) rfl #[.int .i64 64, .bool false, .slice Ao14 y229.length co14, .slice Ao15 y232.length co15, .int .i64 0] rfl (by (try simp only [List.map_toArray, List.map_cons, List.map_nil]); first | done | rfl | (simp only [List.length_drop, List.length_take]; rfl)) ?_; (with_reducible refine (round_Ratio.calls k 64 false (fun k_ => some k_ = (.slice Ao14 y229.length co14 : Value).ownBlock) _ _ y229 (fun k_ => some k_ = (.slice Ao15 y232.length co15 : Value).ownBlock) _ _ y232 0 t235 none _ ?side1 ?side2 ?side3 A1.out).mono ?_); (case side1 => exact Kd.R_V (Kd.R_tight rfl (HO231.out))); (case side2 => exact Kd.R_V (Kd.R_tight rfl (HO234.out))); (case side3 => exact Laid_DB64.of_below HL_DB64.out (by repeat (first | (with_reducible first | exact HB.out | apply below_alloc | apply pw_below_drewN | apply below_drew1) | exact HB.out))); rintro e w16 ⟨rfl, hb⟩; refine ⟨_, rfl, ?_⟩; have n0_ := Aside0.mk (Kd.R_below (by (with_reducible repeat (first | apply Kd.R_alloc | apply Kd.R_drewN | apply Kd.R_drew)); exact HO231.out) hb); have n1_ := Aside0.mk (Kd.R_below (by (with_reducible repeat (first | apply Kd.R_alloc | apply Kd.R_drewN | apply Kd.R_drew)); exact HO234.out) hb); have n2_ := Aside0.mk (below_step (by repeat (first | (with_reducible first | exact HB.out | apply below_alloc | apply pw_below_drewN | apply below_drew1) | exact HB.out)) hb); clear HO231; clear HO234; clear HB; have HO231 := n0_; have HO234 := n1_; have HB := n2_; clear n0_ n1_ n2_; (try clear hb); (try clear hb2); (try clear hk); (try clear hi); (try simp only [errW_none, errW_some])) | ((with_reducible refine gate_callee (f := 13) rfl ?_); refine goesL_ (some 16) rfl rfl Tryd.func13 (by kernel_rfl) rfl #[.int .i64 64, .bool false, .int .u64 9007199254740993, .int .i64 0, .bool false] rfl (by (try simp only [List.map_toArray, List.map_cons, List.map_nil]); first | done | rfl | (simp only [List.length_drop, List.length_take]; rfl)) ?_; (with_reducible refine (round_Whole.calls k 64 false 9007199254740993 0 false t237 none _ ?side1 A2.out).mono ?_); (case side1 => exact Laid_DB64.of_below HL_DB64.out (by repeat (first | (with_reducible first | exact HB.out | apply below_alloc | apply pw_below_drewN | apply below_drew1) | exact HB.out))); rintro e w17 ⟨rfl, hb⟩; refine ⟨_, rfl, ?_⟩; have n0_ := Aside0.mk (Kd.R_below (by (with_reducible repeat (first | apply Kd.R_alloc | apply Kd.R_drewN | apply Kd.R_drew)); exact HO231.out) hb); have n1_ := Aside0.mk (Kd.R_below (by (with_reducible repeat (first | apply Kd.R_alloc | apply Kd.R_drewN | apply Kd.R_drew)); exact HO234.out) hb); have n2_ := Aside0.mk (below_step (by repeat (first | (with_reducible first | exact HB.out | apply below_alloc | apply pw_below_drewN | apply below_drew1) | exact HB.out)) hb); clear HO231; clear HO234; clear HB; have HO231 := n0_; have HO234 := n1_; have HB := n2_; clear n0_ n1_ n2_; (try clear hb); (try clear hb2); (try clear hk); (try clear hi); (try simp only [errW_none, errW_some])) | ((with_reducible refine gate_callee (f := 13) rfl ?_); refine goesL_ (some 20) rfl rfl Tryd.func13 (by kernel_rfl) rfl #[.int .i64 64, .bool false, .int .u64 9007199254740993, .int .i64 0, .bool true] rfl (by (try simp only [List.map_toArray, List.map_cons, List.map_nil]); first | done | rfl | (simp only [List.length_drop, List.length_take]; rfl)) ?_; (with_reducible refine (round_Whole.calls k 64 false 9007199254740993 0 true t239 none _ ?side1 A3.out).mono ?_); (case side1 => exact Laid_DB64.of_below HL_DB64.out (by repeat (first | (with_reducible first | exact HB.out | apply below_alloc | apply pw_below_drewN | apply below_drew1) | exact HB.out))); rintro e w18 ⟨rfl, hb⟩; refine ⟨_, rfl, ?_⟩; have n0_ := Aside0.mk (Kd.R_below (by (with_reducible repeat (first | apply Kd.R_alloc | apply Kd.R_drewN | apply Kd.R_drew)); exact HO231.out) hb); have n1_ := Aside0.mk (Kd.R_below (by (with_reducible repeat (first | apply Kd.R_alloc | apply Kd.R_drewN | apply Kd.R_drew)); exact HO234.out) hb); have n2_ := Aside0.mk (below_step (by repeat (first | (with_reducible first | exact HB.out | apply below_alloc | apply pw_below_drewN | apply below_drew1) | exact HB.out)) hb); clear HO231; clear HO234; clear HB; have HO231 := n0_; have HO234 := n1_; have HB := n2_; clear n0_ n1_ n2_; (try clear hb); (try clear hb2); (try clear hk); (try clear hi); (try simp only [errW_none, errW_some])) | ((with_reducible refine gate_callee (f := 13) rfl ?_); refine goesL_ (some 24) rfl rfl Tryd.func13 (by kernel_rfl) rfl #[.int .i64 32, .bool true, .int .u64 1, .int .i64 128, .bool false] rfl (by (try simp only [List.map_toArray, List.map_cons, List.map_nil]); first | done | rfl | (simp only [List.length_drop, List.length_take]; rfl)) ?_; (with_reducible refine (round_Whole.calls k 32 true 1 128 false t241 t242 _ ?side1 A4.out).mono ?_); (case side1 => exact Laid_DB64.of_below HL_DB64.out (by repeat (first | (with_reducible first | exact HB.out | apply below_alloc | apply pw_below_drewN | apply below_drew1) | exact HB.out))); rintro e w19 ⟨rfl, hb⟩; refine ⟨_, rfl, ?_⟩; have n0_ := Aside0.mk (Kd.R_below (by (with_reducible repeat (first | apply Kd.R_alloc | apply Kd.R_drewN | apply Kd.R_drew)); exact HO231.out) hb); have n1_ := Aside0.mk (Kd.R_below (by (with_reducible repeat (first | apply Kd.R_alloc | apply Kd.R_drewN | apply Kd.R_drew)); exact HO234.out) hb); have n2_ := Aside0.mk (below_step (by repeat (first | (with_reducible first | exact HB.out | apply below_alloc | apply pw_below_drewN | apply below_drew1) | exact HB.out)) hb); clear HO231; clear HO234; clear HB; have HO231 := n0_; have HO234 := n1_; have HB := n2_; clear n0_ n1_ n2_; (try clear hb); (try clear hb2); (try clear hk); (try clear hi); (try simp only [errW_none, errW_some]); have CA9 := fun W => numerallaw12_num.calls t242 t246 W A9.out; try simp only [errW_none, errW_some] at CA9) | (go_at_call 10; (with_reducible refine (CA9 _).mono ?_); rintro e w' ⟨rfl, ⟨nd, rfl⟩⟩))
        go_ret
        exact ⟨by first | rfl | (simp [errW_none, errW_some] <;> rfl) | (simp [*, errW_none, errW_some] <;> rfl), by repeat (first | (with_reducible first | exact HB.out | apply below_alloc | apply pw_below_drewN | apply below_drew1) | exact HB.out)⟩
       ·rw [if_neg c8] at H
        exact absurd H (by simp)
      ·have H1 : (none) = some r := by rw [if_neg (show ¬ (some q245).isNone = true by simp)] at H; exact H
       clear H
       have H := H1
       clear H1
       try simp only [errW_none, errW_some]
       exact absurd H (by simp)
     ·rw [if_neg c7] at H
      exact absurd H (by simp)
    ·have H1 : (none) = some r := by rw [if_neg (show ¬ (some q244).isNone = true by simp)] at H; exact H
     clear H
     have H := H1
     clear H1
     try simp only [errW_none, errW_some]
     exact absurd H (by simp)
   ·rw [if_neg c6] at H
    exact absurd H (by simp)
  ·have H1 : (none) = some r := by rw [if_neg (show ¬ (some q243).isNone = true by simp)] at H; exact H
   clear H
   have H := H1
   clear H1
   try simp only [errW_none, errW_some]
   exact absurd H (by simp)
 ·rw [if_neg c5] at H
  exact absurd H (by simp)

/-! ### numeralref02_Valid: function 15 -/
def numeralref02_Valid.f (l0 : List Int) : Option (Int) := if (l0.length : Int) > 128 then (some 20) else (if (l0.length : Int) > 0 then (if 0 ≤ (wrap64 ((l0.length : Int) - 1)) then (if (wrap64 ((l0.length : Int) - 1)) < (l0.length : Int) then (if (rd l0 (wrap64 ((l0.length : Int) - 1))) = 0 then (some 1) else (some 0)) else (none)) else (none)) else (some 0))
set_option maxHeartbeats 8000000 in
set_option maxRecDepth 100000 in
theorem numeralref02_Valid.calls (A0 : Option Addr) (c0 : Nat) (l0 : List Int) (r : Int) (w : World) (hr0 : Kd.C (Kd.int .u64) w A0 l0.length l0) (hc0 : l0.length ≤ c0) (h : numeralref02_Valid.f l0 = some r) :
  Calls Tryd.prog 15 #[.slice A0 l0.length c0] w fun e w' => e = .returned (.int .i64 r) ∧ Drawn0 w w' := by
 have HR0 := Aside0.mk hr0
 have HC0 := Aside0.mk hc0
 clear hr0 hc0
 have H : (if (l0.length : Int) > 128 then (some 20) else (if (l0.length : Int) > 0 then (if 0 ≤ (wrap64 ((l0.length : Int) - 1)) then (if (wrap64 ((l0.length : Int) - 1)) < (l0.length : Int) then (if (rd l0 (wrap64 ((l0.length : Int) - 1))) = 0 then (some 1) else (some 0)) else (none)) else (none)) else (some 0))) = some r := h
 clear h
 by_cases c2 : (l0.length : Int) > 128
 ·rw [if_pos c2] at H
  have c2b0 : decide (128 < (l0.length : Int)) = true := decide_eq_true c2
  have c2b1 : decide (128 < l0.length) = true := decide_eq_true (by omega)
  clear c2
  obtain rfl := Option.some.inj H
  go_enter Tryd.func15, Tryd.ntmps15
  go_wp2
  go_ret
  exact ⟨by first | rfl | (simp; done) | (simp [*]; done), by repeat (first | exact Drawn0.refl _ | apply Drawn0.step)⟩
 ·rw [if_neg c2] at H
  have c2b0 : decide (128 < (l0.length : Int)) = false := decide_eq_false c2
  have c2b1 : decide (128 < l0.length) = false := decide_eq_false (by omega)
  clear c2
  by_cases c3 : (l0.length : Int) > 0
  ·rw [if_pos c3] at H
   have c3b0 : decide (0 < (l0.length : Int)) = true := decide_eq_true c3
   have c3b1 : decide (0 < l0.length) = true := decide_eq_true (by omega)
   clear c3
   obtain ⟨ji4, hji4⟩ : ∃ j_ : Int, (wrap64 ((l0.length : Int) - 1)) = j_ := ⟨_, rfl⟩
   replace H : (if 0 ≤ (ji4) then (if (ji4) < (l0.length : Int) then (if (rd l0 (ji4)) = 0 then (some 1) else (some 0)) else (none)) else (none)) = some r := by first | (rw [hji4] at H; exact H) | (simp only [hji4] at H ⊢; exact H)
   have hji4w : (IntKind.i64.wrap ((l0.length : Int) - 1)) = ji4 := (i64_w _).trans hji4
   by_cases c5 : 0 ≤ (ji4)
   ·rw [if_pos c5] at H
    have c5b0 : decide (0 ≤ (ji4)) = true := decide_eq_true c5
    clear c5
    by_cases c6 : (ji4) < (l0.length : Int)
    ·rw [if_pos c6] at H
     have c6b0 : decide ((ji4) < (l0.length : Int)) = true := decide_eq_true c6
     clear c6
     by_cases c7 : (rd l0 (ji4)) = 0
     ·rw [if_pos c7] at H
      have c7b0 : ((rd l0 (ji4)) == 0) = true := beq_iff_eq.mpr c7
      have c7b1 : ((rd l0 (ji4)) != 0) = false := bne_eq_false_iff_eq.mpr c7
      clear c7
      obtain rfl := Option.some.inj H
      have p247 : 0 ≤ ((ji4) : Int) := of_decide_eq_true (by first | (with_reducible assumption) | assumption)
      have q247 : (ji4) < (l0.length : Int) := of_decide_eq_true (by first | (with_reducible assumption) | assumption)
      obtain ⟨ad247, e247, hx247_0⟩ := Kd.at_int HR0.out (ji4) p247 q247
      cases e247
      replace p247 := eq_true p247
      replace q247 := eq_true q247
      go_enter Tryd.func15, Tryd.ntmps15
      go_wp2
      go_ret
      exact ⟨by first | rfl | (simp; done) | (simp only [← hji4] <;> (first | rfl | simp)) | (simp [*]; done), by repeat (first | exact Drawn0.refl _ | apply Drawn0.step)⟩
     ·rw [if_neg c7] at H
      have c7b0 : ((rd l0 (ji4)) == 0) = false := beq_eq_false_iff_ne.mpr c7
      have c7b1 : ((rd l0 (ji4)) != 0) = true := bne_iff_ne.mpr c7
      obtain rfl := Option.some.inj H
      have p247 : 0 ≤ ((ji4) : Int) := of_decide_eq_true (by first | (with_reducible assumption) | assumption)
      have q247 : (ji4) < (l0.length : Int) := of_decide_eq_true (by first | (with_reducible assumption) | assumption)
      obtain ⟨ad247, e247, hx247_0⟩ := Kd.at_int HR0.out (ji4) p247 q247
      cases e247
      replace p247 := eq_true p247
      replace q247 := eq_true q247
      go_enter Tryd.func15, Tryd.ntmps15
      go_wp2
      go_ret
      exact ⟨by first | rfl | (simp; done) | (simp only [← hji4] <;> (first | rfl | simp)) | (simp [*]; done), by repeat (first | exact Drawn0.refl _ | apply Drawn0.step)⟩
    ·rw [if_neg c6] at H
     exact absurd H (by simp)
   ·rw [if_neg c5] at H
    exact absurd H (by simp)
  ·rw [if_neg c3] at H
   have c3b0 : decide (0 < (l0.length : Int)) = false := decide_eq_false c3
   have c3b1 : decide (0 < l0.length) = false := decide_eq_false (by omega)
   clear c3
   obtain rfl := Option.some.inj H
   go_enter Tryd.func15, Tryd.ntmps15
   go_wp2
   go_ret
   exact ⟨by first | rfl | (simp; done) | (simp [*]; done), by repeat (first | exact Drawn0.refl _ | apply Drawn0.step)⟩

/-! ### numeralref11_Size: function 16 -/
def numeralref11_Size.f (a0 : Int) : Option (Bool) := if a0 = 32 then (some true) else (some (a0 == 64))
set_option maxHeartbeats 8000000 in
set_option maxRecDepth 100000 in
theorem numeralref11_Size.calls (a0 : Int) (r : Bool) (w : World) (h : numeralref11_Size.f a0 = some r) :
  Calls Tryd.prog 16 #[.int .i64 a0] w fun e w' => e = .returned (.bool r) ∧ Drawn0 w w' := by
 have H : (if a0 = 32 then (some true) else (some (a0 == 64))) = some r := h
 clear h
 by_cases c2 : a0 = 32
 ·rw [if_pos c2] at H
  have c2b0 : (a0 == 32) = true := beq_iff_eq.mpr c2
  have c2b1 : (a0 != 32) = false := bne_eq_false_iff_eq.mpr c2
  clear c2
  obtain rfl := Option.some.inj H
  go_enter Tryd.func16, Tryd.ntmps16
  go_wp2
  go_ret
  exact ⟨by first | rfl | (simp; done) | (simp [*]; done), by repeat (first | exact Drawn0.refl _ | apply Drawn0.step)⟩
 ·rw [if_neg c2] at H
  have c2b0 : (a0 == 32) = false := beq_eq_false_iff_ne.mpr c2
  have c2b1 : (a0 != 32) = true := bne_iff_ne.mpr c2
  obtain rfl := Option.some.inj H
  go_enter Tryd.func16, Tryd.ntmps16
  go_wp2
  go_ret
  exact ⟨by first | rfl | (simp; done) | (simp [*]; done), by repeat (first | exact Drawn0.refl _ | apply Drawn0.step)⟩

/-! ### nat_valid: function 39 -/
def nat_valid.f (l0 : List Int) (l1 : List Int) : Option (Option Int) := (nat_Valid.f l0).bind fun t248 => (if t248.isNone = true then ((nat_Valid.f l1).bind fun t250 => (some t250)) else (some (some (t248.getD 0))))
set_option maxHeartbeats 8000000 in
set_option maxRecDepth 100000 in
theorem nat_valid.calls (A0 : Option Addr) (c0 : Nat) (l0 : List Int) (A1 : Option Addr) (c1 : Nat) (l1 : List Int) (r : Option Int) (w : World) (hr0 : Kd.C (Kd.int .u64) w A0 l0.length l0) (hc0 : l0.length ≤ c0) (hr1 : Kd.C (Kd.int .u64) w A1 l1.length l1) (hc1 : l1.length ≤ c1) (h : nat_valid.f l0 l1 = some r) :
  Calls Tryd.prog 39 #[.slice A0 l0.length c0, .slice A1 l1.length c1] w fun e w' => e = .returned (errW r) ∧ Drawn0 w w' := by
 have hu29 := Tryd.underlying29
 have hu55 := Tryd.underlying55
 have HR0 := Aside0.mk hr0
 have HC0 := Aside0.mk hc0
 clear hr0 hc0
 have HR1 := Aside0.mk hr1
 have HC1 := Aside0.mk hc1
 clear hr1 hc1
 have H : ((nat_Valid.f l0).bind fun t248 => (if t248.isNone = true then ((nat_Valid.f l1).bind fun t250 => (some t250)) else (some (some (t248.getD 0))))) = some r := h
 clear h
 replace H := Option.bind_eq_some_iff.mp H
 obtain ⟨t248, A30, H⟩ := H
 replace H : (if t248.isNone = true then ((nat_Valid.f l1).bind fun t250 => (some t250)) else (some (some (t248.getD 0)))) = some r := H
 have A3 := Aside0.mk A30
 clear A30
 rcases t248 with _ | q249
 ·have H1 : ((nat_Valid.f l1).bind fun t250 => (some t250)) = some r := by rw [if_pos (show (none : Option Int).isNone = true by rfl)] at H; exact H
  clear H
  have H := H1
  clear H1
  try simp only [errW_none, errW_some]
  replace H := Option.bind_eq_some_iff.mp H
  obtain ⟨t250, A40, H⟩ := H
  replace H : (some t250) = some r := H
  have A4 := Aside0.mk A40
  clear A40
  obtain rfl := Option.some.inj H
  go_enter Tryd.func39, Tryd.ntmps39
  go_wp2_with (first | ((with_reducible refine gate_callee (f := 24) rfl ?_); refine goesL_ (some 7) rfl rfl Tryd.func24 (by kernel_rfl) rfl #[.slice A0 l0.length c0] rfl (by (try simp only [List.map_toArray, List.map_cons, List.map_nil]); first | done | rfl | (simp only [List.length_drop, List.length_take]; rfl)) ?_; (with_reducible refine (nat_Valid.calls _ _ l0 none _ ?side1 ?side2 A3.out).mono ?_); (case side1 => repeat (first | exact HR0.out | (with_reducible refine Kd.C_alloc ?_ _) | (with_reducible refine Kd.C_drewN ?_ _) | (with_reducible refine Kd.C_drew ?_))); (case side2 => exact HC0.out); rintro e w' ⟨rfl, ⟨nd, rfl⟩⟩; refine ⟨_, rfl, ?_⟩; (try simp only [errW_none, errW_some])) | ((with_reducible refine gate_callee (f := 24) rfl ?_); refine goesL_ (some 12) rfl rfl Tryd.func24 (by kernel_rfl) rfl #[.slice A1 l1.length c1] rfl (by (try simp only [List.map_toArray, List.map_cons, List.map_nil]); first | done | rfl | (simp only [List.length_drop, List.length_take]; rfl)) ?_; (with_reducible refine (nat_Valid.calls _ _ l1 t250 _ ?side1 ?side2 A4.out).mono ?_); (case side1 => repeat (first | exact HR1.out | (with_reducible refine Kd.C_alloc ?_ _) | (with_reducible refine Kd.C_drewN ?_ _) | (with_reducible refine Kd.C_drew ?_))); (case side2 => exact HC1.out); rintro e w' ⟨rfl, ⟨nd, rfl⟩⟩; refine ⟨_, rfl, ?_⟩; (try simp only [errW_none, errW_some])))
  go_ret
  exact ⟨by first | rfl | (simp; done) | (simp [*]; done), by repeat (first | exact Drawn0.refl _ | apply Drawn0.step)⟩
 ·have H1 : (some (some q249)) = some r := by rw [if_neg (show ¬ (some q249).isNone = true by simp)] at H; exact H
  clear H
  have H := H1
  clear H1
  try simp only [errW_none, errW_some]
  obtain rfl := Option.some.inj H
  go_enter Tryd.func39, Tryd.ntmps39
  go_wp2_with (first | ((with_reducible refine gate_callee (f := 24) rfl ?_); refine goesL_ (some 7) rfl rfl Tryd.func24 (by kernel_rfl) rfl #[.slice A0 l0.length c0] rfl (by (try simp only [List.map_toArray, List.map_cons, List.map_nil]); first | done | rfl | (simp only [List.length_drop, List.length_take]; rfl)) ?_; (with_reducible refine (nat_Valid.calls _ _ l0 (some q249) _ ?side1 ?side2 A3.out).mono ?_); (case side1 => repeat (first | exact HR0.out | (with_reducible refine Kd.C_alloc ?_ _) | (with_reducible refine Kd.C_drewN ?_ _) | (with_reducible refine Kd.C_drew ?_))); (case side2 => exact HC0.out); rintro e w' ⟨rfl, ⟨nd, rfl⟩⟩; refine ⟨_, rfl, ?_⟩; (try simp only [errW_none, errW_some])))
  go_ret
  exact ⟨by first | rfl | (simp; done) | (simp [*]; done), by repeat (first | exact Drawn0.refl _ | apply Drawn0.step)⟩

/-! ### bits_Add64: function 40 -/

def bits_Add64.f (a0 a1 a2 : Int) : Option (Int × Int) := if (u64ok a0 && (u64ok a1 && (a2 == 0 || a2 == 1))) = true then some ((a0 + a1 + a2) % 18446744073709551616, (a0 + a1 + a2) / 18446744073709551616) else none
theorem bits_Add64.run (a0 a1 a2 r1 r2 : Int) (h : bits_Add64.f a0 a1 a2 = some (r1, r2)) (W : World) : (callFunc 40 #[.int .u64 a0, .int .u64 a1, .int .u64 a2]).run Tryd.prog W = .ok (.value (.tuple #[.int .u64 r1, .int .u64 r2])) W := by
 unfold bits_Add64.f at h
 split at h
 ·rename_i hb
  simp only [Bool.and_eq_true, Bool.or_eq_true, beq_iff_eq] at hb
  obtain ⟨h0, h1, h2⟩ := hb
  have h0 := of_decide_eq_true h0
  have h1 := of_decide_eq_true h1
  injection h with h
  injection h with e1 e2
  subst e1; subst e2
  rw [run_callFunc_extern Tryd.func40 (by kernel_rfl) (by kernel_rfl) (by kernel_rfl) (e := add64Entry) (by kernel_rfl), run_add64 a0 a1 a2 h0.1 h1.1 (by omega) (by omega)]
  rfl
 ·cases h


/-! ### nat_trim: function 45 -/
def nat_trim.l0 : Nat → List Int → Int → Option (List Int)
 | 0, _, _ => none
 | k + 1, x0, x3 => if x3 > 0 then (if 0 ≤ (wrap64 (x3 - 1)) then (if (wrap64 (x3 - 1)) < (x0.length : Int) then (if (rd x0 (wrap64 (x3 - 1))) = 0 then (nat_trim.l0 k x0 (wrap64 (x3 - 1))) else (if 0 ≤ x3 then (if x3 ≤ (x0.length : Int) then (some (x0.take (x3 : Int).toNat)) else (none)) else (none))) else (none)) else (none)) else (if 0 ≤ x3 then (if x3 ≤ (x0.length : Int) then (some (x0.take (x3 : Int).toNat)) else (none)) else (none))
def nat_trim.f (k : Nat) (l0 : List Int) : Option (List Int) := nat_trim.l0 k l0 (l0.length : Int)
set_option maxHeartbeats 8000000 in
set_option maxRecDepth 100000 in
theorem nat_trim.calls (k : Nat) (P0_ : Nat → Prop) (u9000_ : Value) (l0 : List Int) (r : List Int) (w0 w : World) (hB : Below w0.heap.size w0 w) (ho0 : Kd.R (Kd.int .u64) 27 w w0.heap.size P0_ u9000_ l0) (h : nat_trim.f k l0 = some r) :
  Calls Tryd.prog 45 #[u9000_] w fun e w' => ∃ v0_ : Value, e = .returned (v0_) ∧ Kd.Q (Kd.int .u64) 27 w' w0.heap.size (fun k_ => (P0_ k_ ∨ w.heap.size ≤ k_)) v0_ r ∧ Below w0.heap.size w0 w' ∧ Kept w w' (fun k_ => P0_ k_) := by
 have HO0 := Aside0.mk (show Kd.R (Kd.int .u64) 27 w w0.heap.size (fun k_ => (P0_ k_ ∨ w.heap.size ≤ k_)) u9000_ l0 from Kd.R_mono ho0 (fun k_ hk => (.inl hk)))
 have HK := Aside0.mk (Kept.refl w (fun k_ => P0_ k_))
 have HW0 := Aside0.mk hB.size
 have HB := Aside0.mk hB
 clear hB
 have H : (nat_trim.l0 k l0 (l0.length : Int)) = some r := h
 clear h
 have H' := Aside0.mk H
 clear H
 obtain ⟨Ao2, co2, eo2⟩ := Kd.R_slice HO0.out
 subst eo2
 go_enter Tryd.func45, Tryd.ntmps45
 go_wp2
 go_loopg [3] k (fun kq v3 w' => ∃ (x3_1 : Int), v3 = .int .i64 x3_1 ∧ Aside0 (nat_trim.l0 kq l0 x3_1 = some r) ∧ Aside0 (kq ≤ k) ∧ Aside0 (Kd.R (Kd.int .u64) 27 w' w0.heap.size (fun k_ => (P0_ k_ ∨ w.heap.size ≤ k_)) (.slice Ao2 l0.length co2) l0) ∧ Aside0 (Kept w w' (fun k_ => P0_ k_)) ∧ Aside0 (Below w0.heap.size w0 w'))
 case atStart => exact ⟨((l0.length : Int)), (by first | rfl | (simp; done) | (simp [*]; done)), H', ⟨Nat.le_refl _⟩, ⟨by (with_reducible repeat (first | apply Kd.R_alloc | apply Kd.R_drewN | apply Kd.R_drew)); exact HO0.out⟩, ⟨by repeat (first | (with_reducible first | exact HK.out | apply Kept.alloc | apply Kept.drewN | apply Kept.drew) | exact HK.out)⟩, ⟨by repeat (first | (with_reducible first | exact HB.out | apply below_alloc | apply pw_below_drewN | apply below_drew1) | exact HB.out)⟩⟩
 case round =>
  clear H'
  try clear p2
  obtain ⟨x3_1, rfl, HA, HK1, HO_0, HK, HB⟩ := hrel
  cases gk with
  | zero => exact absurd HA.out (by simp [nat_trim.l0])
  | succ k1 =>
   have H := HA.out
   clear HA
   simp only [nat_trim.l0] at H
   by_cases c3 : x3_1 > 0
   ·rw [if_pos c3] at H
    have c3b0 : decide (0 < x3_1) = true := decide_eq_true c3
    clear c3
    obtain ⟨ji4, hji4⟩ : ∃ j_ : Int, (wrap64 (x3_1 - 1)) = j_ := ⟨_, rfl⟩
    replace H : (if 0 ≤ (ji4) then (if (ji4) < (l0.length : Int) then (if (rd l0 (ji4)) = 0 then (nat_trim.l0 k1 l0 ji4) else (if 0 ≤ x3_1 then (if x3_1 ≤ (l0.length : Int) then (some (l0.take (x3_1 : Int).toNat)) else (none)) else (none))) else (none)) else (none)) = some r := by first | (rw [hji4] at H; exact H) | (simp only [hji4] at H ⊢; exact H)
    have hji4w : (IntKind.i64.wrap (x3_1 - 1)) = ji4 := (i64_w _).trans hji4
    by_cases c5 : 0 ≤ (ji4)
    ·rw [if_pos c5] at H
     have c5b0 : decide (0 ≤ (ji4)) = true := decide_eq_true c5
     clear c5
     by_cases c6 : (ji4) < (l0.length : Int)
     ·rw [if_pos c6] at H
      have c6b0 : decide ((ji4) < (l0.length : Int)) = true := decide_eq_true c6
      clear c6
      by_cases c7 : (rd l0 (ji4)) = 0
      ·rw [if_pos c7] at H
       have c7b0 : ((rd l0 (ji4)) == 0) = true := beq_iff_eq.mpr c7
       have c7b1 : ((rd l0 (ji4)) != 0) = false := bne_eq_false_iff_eq.mpr c7
       clear c7
       have H' := Aside0.mk H
       clear H
       have p251 : 0 ≤ ((ji4) : Int) := of_decide_eq_true (by first | (with_reducible assumption) | assumption)
       have q251 : (ji4) < (l0.length : Int) := of_decide_eq_true (by first | (with_reducible assumption) | assumption)
       obtain ⟨ad251, e251, hx251_0⟩ := Kd.at_int (Kd.R_reads' HO_0.out).2.2 (ji4) p251 q251
       cases e251
       replace p251 := eq_true p251
       replace q251 := eq_true q251
       go_wp2
       go_roundg k1
       case measure => have := HK1.out; omega
       case rel => exact ⟨(ji4), (by first | rfl | (simp; done) | (simp only [← hji4] <;> (first | rfl | simp)) | (simp [*]; done)), H', ⟨by have := HK1.out; omega⟩, ⟨by (with_reducible repeat (first | apply Kd.R_alloc | apply Kd.R_drewN | apply Kd.R_drew)); exact HO_0.out⟩, ⟨by repeat (first | (with_reducible first | exact HK.out | apply Kept.alloc | apply Kept.drewN | apply Kept.drew) | exact HK.out)⟩, ⟨by repeat (first | (with_reducible first | exact HB.out | apply below_alloc | apply pw_below_drewN | apply below_drew1) | exact HB.out)⟩⟩
      ·rw [if_neg c7] at H
       have c7b0 : ((rd l0 (ji4)) == 0) = false := beq_eq_false_iff_ne.mpr c7
       have c7b1 : ((rd l0 (ji4)) != 0) = true := bne_iff_ne.mpr c7
       by_cases c8 : 0 ≤ x3_1
       ·rw [if_pos c8] at H
        have c8b0 := eq_true c8
        have c8b1 : decide (0 ≤ x3_1) = true := decide_eq_true c8
        clear c8
        by_cases c9 : x3_1 ≤ (l0.length : Int)
        ·rw [if_pos c9] at H
         have c9b0 := eq_true c9
         have c9b1 : decide (x3_1 ≤ (l0.length : Int)) = true := decide_eq_true c9
         clear c9
         obtain ⟨y252, hy252⟩ : ∃ y_ : List Int, y_ = (l0.take (x3_1 : Int).toNat) := ⟨_, rfl⟩
         replace H : (some y252) = some r := by first | (rw [hy252]; with_reducible exact H) | (have H2_ := (Option.bind_some _ _).symm.trans H; rw [hy252]; with_reducible exact H2_) | (have H2_ := (Option.bind_some _ _).symm.trans H; with_reducible exact H2_) | with_reducible exact H | (rw [hy252]; exact H) | exact H
         have Ny252 := Aside0.mk hy252
         clear hy252
         obtain rfl := Option.some.inj H
         have p251 : 0 ≤ ((ji4) : Int) := of_decide_eq_true (by first | (with_reducible assumption) | assumption)
         have q251 : (ji4) < (l0.length : Int) := of_decide_eq_true (by first | (with_reducible assumption) | assumption)
         obtain ⟨ad251, e251, hx251_0⟩ := Kd.at_int (Kd.R_reads' HO_0.out).2.2 (ji4) p251 q251
         cases e251
         replace p251 := eq_true p251
         replace q251 := eq_true q251
         have q10 : (x3_1 : Int) ≤ ((l0.length : Int) : Int) := of_decide_eq_true (by first | (with_reducible assumption) | assumption)
         obtain ⟨i010, hi010, _, hsz10, _⟩ := info_parts info27
         have hcut10 := cut_to3 (P := Tryd.prog) 25 27 .i64 .i64 Tryd.underlying25 hi010 (some ad251) l0.length co2 x3_1 (of_decide_eq_true (by first | (with_reducible assumption) | assumption)) q10 (Kd.R_reads' HO_0.out).2.1
         have hr10 := Kd.Q_take3 (m := (x3_1 : Int).toNat) (Kd.Q_of_R HO_0.out) (by omega)
         have hy10 : y252.length = (x3_1 : Int).toNat := (by rw [Ny252.out, List.length_take]; omega)
         rw [← Ny252.out] at hr10
         rw [← hy10] at hr10 hcut10
         clear hy10 hi010 hsz10 HO_0
         have HO254 := Aside0.mk hr10
         clear hr10
         replace q10 := eq_true q10
         go_wp2
         go_ret
         exact ⟨_, by first | rfl | (simp [errW_none, errW_some] <;> rfl) | (simp only [← hji4]; first | rfl | (simp [errW_none, errW_some] <;> rfl)) | (simp [*, errW_none, errW_some] <;> rfl), by (with_reducible repeat (first | apply Kd.Q_alloc | apply Kd.Q_drewN | apply Kd.Q_drew)); exact HO254.out, by repeat (first | (with_reducible first | exact HB.out | apply below_alloc | apply pw_below_drewN | apply below_drew1) | exact HB.out), by repeat (first | (with_reducible first | exact HK.out | apply Kept.alloc | apply Kept.drewN | apply Kept.drew) | exact HK.out)⟩
        ·rw [if_neg c9] at H
         exact absurd H (by simp)
       ·rw [if_neg c8] at H
        exact absurd H (by simp)
     ·rw [if_neg c6] at H
      exact absurd H (by simp)
    ·rw [if_neg c5] at H
     exact absurd H (by simp)
   ·rw [if_neg c3] at H
    have c3b0 : decide (0 < x3_1) = false := decide_eq_false c3
    clear c3
    by_cases c11 : 0 ≤ x3_1
    ·rw [if_pos c11] at H
     have c11b0 := eq_true c11
     have c11b1 : decide (0 ≤ x3_1) = true := decide_eq_true c11
     clear c11
     by_cases c12 : x3_1 ≤ (l0.length : Int)
     ·rw [if_pos c12] at H
      have c12b0 := eq_true c12
      have c12b1 : decide (x3_1 ≤ (l0.length : Int)) = true := decide_eq_true c12
      clear c12
      obtain ⟨y255, hy255⟩ : ∃ y_ : List Int, y_ = (l0.take (x3_1 : Int).toNat) := ⟨_, rfl⟩
      replace H : (some y255) = some r := by first | (rw [hy255]; with_reducible exact H) | (have H2_ := (Option.bind_some _ _).symm.trans H; rw [hy255]; with_reducible exact H2_) | (have H2_ := (Option.bind_some _ _).symm.trans H; with_reducible exact H2_) | with_reducible exact H | (rw [hy255]; exact H) | exact H
      have Ny255 := Aside0.mk hy255
      clear hy255
      obtain rfl := Option.some.inj H
      have q13 : (x3_1 : Int) ≤ ((l0.length : Int) : Int) := of_decide_eq_true (by first | (with_reducible assumption) | assumption)
      obtain ⟨i013, hi013, _, hsz13, _⟩ := info_parts info27
      have hcut13 := cut_to3 (P := Tryd.prog) 25 27 .i64 .i64 Tryd.underlying25 hi013 Ao2 l0.length co2 x3_1 (of_decide_eq_true (by first | (with_reducible assumption) | assumption)) q13 (Kd.R_reads' HO_0.out).2.1
      have hr13 := Kd.Q_take3 (m := (x3_1 : Int).toNat) (Kd.Q_of_R HO_0.out) (by omega)
      have hy13 : y255.length = (x3_1 : Int).toNat := (by rw [Ny255.out, List.length_take]; omega)
      rw [← Ny255.out] at hr13
      rw [← hy13] at hr13 hcut13
      clear hy13 hi013 hsz13 HO_0
      have HO257 := Aside0.mk hr13
      clear hr13
      replace q13 := eq_true q13
      go_wp2
      go_ret
      exact ⟨_, by first | rfl | (simp [errW_none, errW_some] <;> rfl) | (simp [*, errW_none, errW_some] <;> rfl), by (with_reducible repeat (first | apply Kd.Q_alloc | apply Kd.Q_drewN | apply Kd.Q_drew)); exact HO257.out, by repeat (first | (with_reducible first | exact HB.out | apply below_alloc | apply pw_below_drewN | apply below_drew1) | exact HB.out), by repeat (first | (with_reducible first | exact HK.out | apply Kept.alloc | apply Kept.drewN | apply Kept.drew) | exact HK.out)⟩
     ·rw [if_neg c12] at H
      exact absurd H (by simp)
    ·rw [if_neg c11] at H
     exact absurd H (by simp)

/-! ### nat_kept: function 41 -/
def nat_kept.f (k : Nat) (l0 : List Int) : Option (List Int × Option Int) := (nat_trim.f k l0).bind fun t258 => (if (t258.length : Int) > 128 then (some (([] : List Int), some 20)) else (some (t258, none)))
set_option maxHeartbeats 8000000 in
set_option maxRecDepth 100000 in
theorem nat_kept.calls (k : Nat) (P0_ : Nat → Prop) (u9000_ : Value) (l0 : List Int) (r1 : List Int) (r2 : Option Int) (w0 w : World) (hB : Below w0.heap.size w0 w) (ho0 : Kd.R (Kd.int .u64) 27 w w0.heap.size P0_ u9000_ l0) (h : nat_kept.f k l0 = some (r1, r2)) :
  Calls Tryd.prog 41 #[u9000_] w fun e w' => ∃ v0_ : Value, e = .returned (.tuple #[v0_, errW r2]) ∧ Kd.Q (Kd.int .u64) 27 w' w0.heap.size (fun k_ => (P0_ k_ ∨ w.heap.size ≤ k_)) v0_ r1 ∧ Below w0.heap.size w0 w' ∧ Kept w w' (fun k_ => P0_ k_) := by
 have hu29 := Tryd.underlying29
 have hu55 := Tryd.underlying55
 have HO0 := Aside0.mk (show Kd.R (Kd.int .u64) 27 w w0.heap.size (fun k_ => (P0_ k_ ∨ w.heap.size ≤ k_)) u9000_ l0 from Kd.R_mono ho0 (fun k_ hk => (.inl hk)))
 have HK := Aside0.mk (Kept.refl w (fun k_ => P0_ k_))
 have HW0 := Aside0.mk hB.size
 have HB := Aside0.mk hB
 clear hB
 have H : ((nat_trim.f k l0).bind fun t258 => (if (t258.length : Int) > 128 then (some (([] : List Int), some 20)) else (some (t258, none)))) = some (r1, r2) := h
 clear h
 replace H := Option.bind_eq_some_iff.mp H
 obtain ⟨t258, A20, H⟩ := H
 replace H : (if (t258.length : Int) > 128 then (some (([] : List Int), some 20)) else (some (t258, none))) = some (r1, r2) := H
 have A2 := Aside0.mk A20
 clear A20
 by_cases c3 : (t258.length : Int) > 128
 ·rw [if_pos c3] at H
  have c3b0 : decide (128 < (t258.length : Int)) = true := decide_eq_true c3
  have c3b1 : decide (128 < t258.length) = true := decide_eq_true (by omega)
  clear c3
  simp only [Option.some.injEq, Prod.mk.injEq] at H
  obtain ⟨rfl, rfl⟩ := H
  obtain ⟨Ao4, co4, eo4⟩ := Kd.R_slice HO0.out
  subst eo4
  go_enter Tryd.func41, Tryd.ntmps41
  go_wp2_with (first | ((with_reducible refine gate_callee (f := 45) rfl ?_); refine goesL_ (some 5) rfl rfl Tryd.func45 (by kernel_rfl) rfl #[.slice Ao4 l0.length co4] rfl (by (try simp only [List.map_toArray, List.map_cons, List.map_nil]); first | done | rfl | (simp only [List.length_drop, List.length_take]; rfl)) ?_; (with_reducible refine (nat_trim.calls k (fun k_ => some k_ = (.slice Ao4 l0.length co4 : Value).ownBlock) (.slice Ao4 l0.length co4) l0 t258 w0 _ ?side1 ?side2 A2.out).mono ?_); (case side1 => repeat (first | (with_reducible first | exact HB.out | apply below_alloc | apply pw_below_drewN | apply below_drew1) | exact HB.out)); (case side2 => exact Kd.R_tight rfl HO0.out); rintro e w5 ⟨v259, rfl, ho0, hb, hkp⟩; refine ⟨_, rfl, ?_⟩; have n0_ := Aside0.mk (Kd.Q_mono (ok' := fun k_ => (P0_ k_ ∨ w.heap.size ≤ k_)) ho0 (fun k_ hk_ => Or.elim hk_ (fun hs_ => (HO0.out.1 k_ (hs_).symm)) (fun hn_ => (.inr (Nat.le_trans (by first | exact HK.out.1 | exact (show Kept w _ (fun k_ => P0_ k_) from by repeat (first | (with_reducible first | exact HK.out | apply Kept.alloc | apply Kept.drewN | apply Kept.drew) | exact HK.out)).1) hn_))))); have n1_ := Aside0.mk (Kept.then_ (S := (fun k_ => P0_ k_)) (by repeat (first | (with_reducible first | exact HK.out | apply Kept.alloc | apply Kept.drewN | apply Kept.drew) | exact HK.out)) hkp (fun k_ hs_ => (fun e_ => (HO0.out.1 k_ e_.symm)) hs_)); have n2_ := Aside0.mk (hb); clear HK; clear HB; clear HO0; have HO260 := n0_; have HK := n1_; have HB := n2_; clear n0_ n1_ n2_; (try clear hb); (try clear hkp); (try clear ho0); obtain ⟨Ao6, co6, eo6, _⟩ := Kd.Q_slice HO260.out; subst eo6))
  go_ret2
  exact ⟨_, by first | rfl | (simp [errW_none, errW_some] <;> rfl) | (simp [*, errW_none, errW_some] <;> rfl), Kd.Q_of_R (by first | exact Kd.R_nil _ _ _ _ _ | exact Kd.N_nil _ _ _ _ _ | exact Kd.V_nil _ _ _ _ _ | exact Kd.Q_nil _ _ _ _ _ | exact Kd.S_nil _ _ _ _ _), by repeat (first | (with_reducible first | exact HB.out | apply below_alloc | apply pw_below_drewN | apply below_drew1) | exact HB.out), by repeat (first | (with_reducible first | exact HK.out | apply Kept.alloc | apply Kept.drewN | apply Kept.drew) | exact HK.out)⟩
 ·rw [if_neg c3] at H
  have c3b0 : decide (128 < (t258.length : Int)) = false := decide_eq_false c3
  have c3b1 : decide (128 < t258.length) = false := decide_eq_false (by omega)
  clear c3
  simp only [Option.some.injEq, Prod.mk.injEq] at H
  obtain ⟨rfl, rfl⟩ := H
  obtain ⟨Ao7, co7, eo7⟩ := Kd.R_slice HO0.out
  subst eo7
  go_enter Tryd.func41, Tryd.ntmps41
  go_wp2_with (first | ((with_reducible refine gate_callee (f := 45) rfl ?_); refine goesL_ (some 5) rfl rfl Tryd.func45 (by kernel_rfl) rfl #[.slice Ao7 l0.length co7] rfl (by (try simp only [List.map_toArray, List.map_cons, List.map_nil]); first | done | rfl | (simp only [List.length_drop, List.length_take]; rfl)) ?_; (with_reducible refine (nat_trim.calls k (fun k_ => some k_ = (.slice Ao7 l0.length co7 : Value).ownBlock) (.slice Ao7 l0.length co7) l0 t258 w0 _ ?side1 ?side2 A2.out).mono ?_); (case side1 => repeat (first | (with_reducible first | exact HB.out | apply below_alloc | apply pw_below_drewN | apply below_drew1) | exact HB.out)); (case side2 => exact Kd.R_tight rfl HO0.out); rintro e w8 ⟨v259, rfl, ho0, hb, hkp⟩; refine ⟨_, rfl, ?_⟩; have n0_ := Aside0.mk (Kd.Q_mono (ok' := fun k_ => (P0_ k_ ∨ w.heap.size ≤ k_)) ho0 (fun k_ hk_ => Or.elim hk_ (fun hs_ => (HO0.out.1 k_ (hs_).symm)) (fun hn_ => (.inr (Nat.le_trans (by first | exact HK.out.1 | exact (show Kept w _ (fun k_ => P0_ k_) from by repeat (first | (with_reducible first | exact HK.out | apply Kept.alloc | apply Kept.drewN | apply Kept.drew) | exact HK.out)).1) hn_))))); have n1_ := Aside0.mk (Kept.then_ (S := (fun k_ => P0_ k_)) (by repeat (first | (with_reducible first | exact HK.out | apply Kept.alloc | apply Kept.drewN | apply Kept.drew) | exact HK.out)) hkp (fun k_ hs_ => (fun e_ => (HO0.out.1 k_ e_.symm)) hs_)); have n2_ := Aside0.mk (hb); clear HK; clear HB; clear HO0; have HO260 := n0_; have HK := n1_; have HB := n2_; clear n0_ n1_ n2_; (try clear hb); (try clear hkp); (try clear ho0); obtain ⟨Ao9, co9, eo9, _⟩ := Kd.Q_slice HO260.out; subst eo9))
  go_ret2
  exact ⟨_, by first | rfl | (simp [errW_none, errW_some] <;> rfl) | (simp [*, errW_none, errW_some] <;> rfl), by (with_reducible repeat (first | apply Kd.Q_alloc | apply Kd.Q_drewN | apply Kd.Q_drew)); exact HO260.out, by repeat (first | (with_reducible first | exact HB.out | apply below_alloc | apply pw_below_drewN | apply below_drew1) | exact HB.out), by repeat (first | (with_reducible first | exact HK.out | apply Kept.alloc | apply Kept.drewN | apply Kept.drew) | exact HK.out)⟩

end Go.Proofs.YtbjmfocjigikgaaDoor.Xi
