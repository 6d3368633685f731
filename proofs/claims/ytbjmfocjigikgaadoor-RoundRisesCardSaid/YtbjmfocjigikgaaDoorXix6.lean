-- PRINTED by print.py (a twelfth state) out of the translation. Not trusted: Lean checks it.
import Derived.Test.YtbjmfocjigikgaaDoorXix0
import Derived.Test.YtbjmfocjigikgaaDoorXix1
import Derived.Test.YtbjmfocjigikgaaDoorXix3
import Derived.Test.YtbjmfocjigikgaaDoorXix4
import Derived.Test.YtbjmfocjigikgaaDoorXix5
namespace Go.Proofs.YtbjmfocjigikgaaDoor.Xi
open Go.RowKit Go.Proofs.YtbjmfocjigikgaaDoorW.PrintWords Go.Proofs.YtbjmfocjigikgaaDoorW.PrintLast Go.Proofs.YtbjmfocjigikgaaDoorW.PrintMore
attribute [local go_sem] max2_int min2_int max_two min_two max_three min_three max_four min_four   -- for this text's walks alone
set_option linter.unusedVariables false
set_option linter.unusedSimpArgs false

/-! ### round_Ratio: function 8 -/
mutual
def round_Ratio.l0 : Nat → Int → Bool → List Int → List Int → Int → Int → Int → List (List Int) → Int → Int → Option (Int × Option Int)
 | 0, _, _, _, _, _, _, _, _, _, _ => none
 | k + 1, x0, x1, x2, x3, x4, x12, x13, x39, x40, x41 => if x41 < x40 then (if 0 ≤ x41 then (if x41 < (x39.length : Int) then ((nat_Valid.f (rd_L1 x39 x41)).bind fun t183 => (if t183.isNone = true then (round_Ratio.l0 k x0 x1 x2 x3 x4 x12 x13 x39 x40 (wrap64 (x41 + 1))) else (some (0, some (t183.getD 0))))) else (none)) else (none)) else (if (x3.length : Int) = 0 then (some (0, some 10)) else ((round_far.f x4).bind fun t185 => (if t185 = true then (some (0, some 1)) else (if (x2.length : Int) = 0 then ((bits_Zero.f k x1 x0).bind fun bt186 => (some (bt186.1, bt186.2))) else ((nat_Bits.f x2).bind fun bt188 => ((nat_Bits.f x3).bind fun bt190 => ((round_shifted.f k x2 (mx (wrap64 (-(wrap64 (bt188.1 - bt190.1)))) 0)).bind fun t192 => ((round_shifted.f k x3 (mx (wrap64 (bt188.1 - bt190.1)) 0)).bind fun t195 => ((round_same.f t192 t195).bind fun bt198 => ((round_less.f k bt198.1 bt198.2).bind fun t204 => (if t204 = true then ((round_double.f k bt198.1).bind fun t205 => (round_Ratio.j1 k x0 x1 x4 x12 x13 (wrap64 ((wrap64 (bt188.1 - bt190.1)) - 1)) t205 bt198.2)) else (round_Ratio.j1 k x0 x1 x4 x12 x13 (wrap64 (bt188.1 - bt190.1)) bt198.1 bt198.2))))))))))))
def round_Ratio.j1 : Nat → Int → Bool → Int → Int → Int → Int → List Int → List Int → Option (Int × Option Int)
 | 0, _, _, _, _, _, _, _, _ => none
 | k + 1, x0, x1, x4, x12, x13, x22, x23, x24 => if (wrap64 (x22 + x4)) > 2000 then (round_Ratio.j2 k x0 x1 (wrap64 (x22 + x4)) x23 x24 (wrap64 ((wrap64 (x22 + x4)) - x12))) else (round_Ratio.j2 k x0 x1 (wrap64 (x22 + x4)) x23 x24 (mx (wrap64 ((wrap64 (x22 + x4)) - x12)) (wrap64 (x13 - 1))))
def round_Ratio.j2 : Nat → Int → Bool → Int → List Int → List Int → Int → Option (Int × Option Int)
 | 0, _, _, _, _, _, _ => none
 | k + 1, x0, x1, x22, x23, x24, x25 => round_Ratio.l1 k x0 x1 x22 x23 x24 x25 0 x22
def round_Ratio.l1 : Nat → Int → Bool → Int → List Int → List Int → Int → Int → Int → Option (Int × Option Int)
 | 0, _, _, _, _, _, _, _, _ => none
 | k + 1, x0, x1, x22, x23, x24, x25, x26, x27 => if x27 ≥ x25 then ((round_less.f k x23 x24).bind fun t211 => (if t211 = true then ((round_double.f k x23).bind fun t212 => (round_Ratio.l1 k x0 x1 x22 t212 x24 x25 (IntKind.u64.wrap (x26 * 2)) (wrap64 (x27 - 1)))) else ((round_off.f k x23 x24).bind fun t213 => ((round_double.f k t213).bind fun t214 => (round_Ratio.l1 k x0 x1 x22 t214 x24 x25 (Go.bits .or .u64 (IntKind.u64.wrap (x26 * 2)) 1) (wrap64 (x27 - 1))))))) else (if x22 < x25 then ((round_pack.f k x0 x1 (x26 / 2) (wrap64 (x25 + 1)) ((Go.bits .and .u64 x26 1) == 1) true).bind fun bt206 => (some (bt206.1, bt206.2))) else ((round_zero.f k x23).bind fun t208 => ((round_pack.f k x0 x1 (x26 / 2) (wrap64 (x25 + 1)) ((Go.bits .and .u64 x26 1) == 1) (!t208)).bind fun bt209 => (some (bt209.1, bt209.2)))))
end
def round_Ratio.f (k : Nat) (a0 : Int) (a1 : Bool) (l2 : List Int) (l3 : List Int) (a4 : Int) : Option (Int × Option Int) := (round_format.f a0).bind fun bt176 => (if bt176.2.2 = true then ((some (([l2, l3] : List (List Int)) : List (List Int))).bind fun y179 => (round_Ratio.l0 k a0 a1 l2 l3 a4 bt176.1 bt176.2.1 y179 (y179.length : Int) 0)) else (some (0, some 5)))
theorem round_Ratio.mono_l : ∀ k, (∀ y0 y1 y2 y3 y4 y5 y6 y7 y8 y9, LeO (round_Ratio.l0 k y0 y1 y2 y3 y4 y5 y6 y7 y8 y9) (round_Ratio.l0 (k + 1) y0 y1 y2 y3 y4 y5 y6 y7 y8 y9)) ∧ (∀ y0 y1 y2 y3 y4 y5 y6 y7, LeO (round_Ratio.j1 k y0 y1 y2 y3 y4 y5 y6 y7) (round_Ratio.j1 (k + 1) y0 y1 y2 y3 y4 y5 y6 y7)) ∧ (∀ y0 y1 y2 y3 y4 y5, LeO (round_Ratio.j2 k y0 y1 y2 y3 y4 y5) (round_Ratio.j2 (k + 1) y0 y1 y2 y3 y4 y5)) ∧ (∀ y0 y1 y2 y3 y4 y5 y6 y7, LeO (round_Ratio.l1 k y0 y1 y2 y3 y4 y5 y6 y7) (round_Ratio.l1 (k + 1) y0 y1 y2 y3 y4 y5 y6 y7))
 | 0 => ⟨fun _ _ _ _ _ _ _ _ _ _ r h => by simp [round_Ratio.l0] at h, fun _ _ _ _ _ _ _ _ r h => by simp [round_Ratio.j1] at h, fun _ _ _ _ _ _ r h => by simp [round_Ratio.j2] at h, fun _ _ _ _ _ _ _ _ r h => by simp [round_Ratio.l1] at h⟩
 | k + 1 => by
  obtain ⟨ih0, ih1, ih2, ih3⟩ := round_Ratio.mono_l k
  refine ⟨?_, ?_, ?_, ?_⟩
  ·intro y0 y1 y2 y3 y4 y5 y6 y7 y8 y9
   unfold round_Ratio.l0
   repeat' first
   | (with_reducible exact ih0 _ _ _ _ _ _ _ _ _ _)
   | (with_reducible exact ih1 _ _ _ _ _ _ _ _)
   | (with_reducible exact ih2 _ _ _ _ _ _)
   | (with_reducible exact ih3 _ _ _ _ _ _ _ _)
   | (with_reducible exact bits_Zero.mono _ _ _)
   | (with_reducible exact round_double.mono _ _)
   | (with_reducible exact round_less.mono _ _ _)
   | (with_reducible exact round_off.mono _ _ _)
   | (with_reducible exact round_pack.mono _ _ _ _ _ _ _)
   | (with_reducible exact round_shifted.mono _ _ _)
   | (with_reducible exact round_zero.mono _ _)
   | (with_reducible exact LeO.refl _)
   | (with_reducible exact LeO.none _)
   | (with_reducible refine LeO.ite ?_ ?_)
   | (with_reducible refine LeO.bind ?_ (fun _ => ?_))
   | exact ih0 _ _ _ _ _ _ _ _ _ _
   | exact ih1 _ _ _ _ _ _ _ _
   | exact ih2 _ _ _ _ _ _
   | exact ih3 _ _ _ _ _ _ _ _
   | exact bits_Zero.mono _ _ _
   | exact round_double.mono _ _
   | exact round_less.mono _ _ _
   | exact round_off.mono _ _ _
   | exact round_pack.mono _ _ _ _ _ _ _
   | exact round_shifted.mono _ _ _
   | exact round_zero.mono _ _
   | exact LeO.none _
   | refine LeO.ite ?_ ?_
   | refine LeO.bind ?_ (fun _ => ?_)
  ·intro y0 y1 y2 y3 y4 y5 y6 y7
   unfold round_Ratio.j1
   repeat' first
   | (with_reducible exact ih0 _ _ _ _ _ _ _ _ _ _)
   | (with_reducible exact ih1 _ _ _ _ _ _ _ _)
   | (with_reducible exact ih2 _ _ _ _ _ _)
   | (with_reducible exact ih3 _ _ _ _ _ _ _ _)
   | (with_reducible exact bits_Zero.mono _ _ _)
   | (with_reducible exact round_double.mono _ _)
   | (with_reducible exact round_less.mono _ _ _)
   | (with_reducible exact round_off.mono _ _ _)
   | (with_reducible exact round_pack.mono _ _ _ _ _ _ _)
   | (with_reducible exact round_shifted.mono _ _ _)
   | (with_reducible exact round_zero.mono _ _)
   | (with_reducible exact LeO.refl _)
   | (with_reducible exact LeO.none _)
   | (with_reducible refine LeO.ite ?_ ?_)
   | (with_reducible refine LeO.bind ?_ (fun _ => ?_))
   | exact ih0 _ _ _ _ _ _ _ _ _ _
   | exact ih1 _ _ _ _ _ _ _ _
   | exact ih2 _ _ _ _ _ _
   | exact ih3 _ _ _ _ _ _ _ _
   | exact bits_Zero.mono _ _ _
   | exact round_double.mono _ _
   | exact round_less.mono _ _ _
   | exact round_off.mono _ _ _
   | exact round_pack.mono _ _ _ _ _ _ _
   | exact round_shifted.mono _ _ _
   | exact round_zero.mono _ _
   | exact LeO.none _
   | refine LeO.ite ?_ ?_
   | refine LeO.bind ?_ (fun _ => ?_)
  ·intro y0 y1 y2 y3 y4 y5
   unfold round_Ratio.j2
   repeat' first
   | (with_reducible exact ih0 _ _ _ _ _ _ _ _ _ _)
   | (with_reducible exact ih1 _ _ _ _ _ _ _ _)
   | (with_reducible exact ih2 _ _ _ _ _ _)
   | (with_reducible exact ih3 _ _ _ _ _ _ _ _)
   | (with_reducible exact bits_Zero.mono _ _ _)
   | (with_reducible exact round_double.mono _ _)
   | (with_reducible exact round_less.mono _ _ _)
   | (with_reducible exact round_off.mono _ _ _)
   | (with_reducible exact round_pack.mono _ _ _ _ _ _ _)
   | (with_reducible exact round_shifted.mono _ _ _)
   | (with_reducible exact round_zero.mono _ _)
   | (with_reducible exact LeO.refl _)
   | (with_reducible exact LeO.none _)
   | (with_reducible refine LeO.ite ?_ ?_)
   | (with_reducible refine LeO.bind ?_ (fun _ => ?_))
   | exact ih0 _ _ _ _ _ _ _ _ _ _
   | exact ih1 _ _ _ _ _ _ _ _
   | exact ih2 _ _ _ _ _ _
   | exact ih3 _ _ _ _ _ _ _ _
   | exact bits_Zero.mono _ _ _
   | exact round_double.mono _ _
   | exact round_less.mono _ _ _
   | exact round_off.mono _ _ _
   | exact round_pack.mono _ _ _ _ _ _ _
   | exact round_shifted.mono _ _ _
   | exact round_zero.mono _ _
   | exact LeO.none _
   | refine LeO.ite ?_ ?_
   | refine LeO.bind ?_ (fun _ => ?_)
  ·intro y0 y1 y2 y3 y4 y5 y6 y7
   unfold round_Ratio.l1
   repeat' first
   | (with_reducible exact ih0 _ _ _ _ _ _ _ _ _ _)
   | (with_reducible exact ih1 _ _ _ _ _ _ _ _)
   | (with_reducible exact ih2 _ _ _ _ _ _)
   | (with_reducible exact ih3 _ _ _ _ _ _ _ _)
   | (with_reducible exact bits_Zero.mono _ _ _)
   | (with_reducible exact round_double.mono _ _)
   | (with_reducible exact round_less.mono _ _ _)
   | (with_reducible exact round_off.mono _ _ _)
   | (with_reducible exact round_pack.mono _ _ _ _ _ _ _)
   | (with_reducible exact round_shifted.mono _ _ _)
   | (with_reducible exact round_zero.mono _ _)
   | (with_reducible exact LeO.refl _)
   | (with_reducible exact LeO.none _)
   | (with_reducible refine LeO.ite ?_ ?_)
   | (with_reducible refine LeO.bind ?_ (fun _ => ?_))
   | exact ih0 _ _ _ _ _ _ _ _ _ _
   | exact ih1 _ _ _ _ _ _ _ _
   | exact ih2 _ _ _ _ _ _
   | exact ih3 _ _ _ _ _ _ _ _
   | exact bits_Zero.mono _ _ _
   | exact round_double.mono _ _
   | exact round_less.mono _ _ _
   | exact round_off.mono _ _ _
   | exact round_pack.mono _ _ _ _ _ _ _
   | exact round_shifted.mono _ _ _
   | exact round_zero.mono _ _
   | exact LeO.none _
   | refine LeO.ite ?_ ?_
   | refine LeO.bind ?_ (fun _ => ?_)
theorem round_Ratio.mono : ∀ a0 a1 a2 a3 a4 k, LeO (round_Ratio.f k a0 a1 a2 a3 a4) (round_Ratio.f (k + 1) a0 a1 a2 a3 a4) := by
 intro a0 a1 a2 a3 a4 k
 obtain ⟨ih0, ih1, ih2, ih3⟩ := round_Ratio.mono_l k
 unfold round_Ratio.f
 repeat' first
   | (with_reducible exact ih0 _ _ _ _ _ _ _ _ _ _)
   | (with_reducible exact ih1 _ _ _ _ _ _ _ _)
   | (with_reducible exact ih2 _ _ _ _ _ _)
   | (with_reducible exact ih3 _ _ _ _ _ _ _ _)
   | (with_reducible exact bits_Zero.mono _ _ _)
   | (with_reducible exact round_double.mono _ _)
   | (with_reducible exact round_less.mono _ _ _)
   | (with_reducible exact round_off.mono _ _ _)
   | (with_reducible exact round_pack.mono _ _ _ _ _ _ _)
   | (with_reducible exact round_shifted.mono _ _ _)
   | (with_reducible exact round_zero.mono _ _)
   | (with_reducible exact LeO.refl _)
   | (with_reducible exact LeO.none _)
   | (with_reducible refine LeO.ite ?_ ?_)
   | (with_reducible refine LeO.bind ?_ (fun _ => ?_))
   | exact ih0 _ _ _ _ _ _ _ _ _ _
   | exact ih1 _ _ _ _ _ _ _ _
   | exact ih2 _ _ _ _ _ _
   | exact ih3 _ _ _ _ _ _ _ _
   | exact bits_Zero.mono _ _ _
   | exact round_double.mono _ _
   | exact round_less.mono _ _ _
   | exact round_off.mono _ _ _
   | exact round_pack.mono _ _ _ _ _ _ _
   | exact round_shifted.mono _ _ _
   | exact round_zero.mono _ _
   | exact LeO.none _
   | refine LeO.ite ?_ ?_
   | refine LeO.bind ?_ (fun _ => ?_)
set_option maxHeartbeats 8000000 in
set_option maxRecDepth 100000 in
theorem round_Ratio.calls (k : Nat) (a0 : Int) (a1 : Bool) (P2_ : Nat → Prop) (A2 : Option Addr) (c2 : Nat) (l2 : List Int) (P3_ : Nat → Prop) (A3 : Option Addr) (c3 : Nat) (l3 : List Int) (a4 : Int) (r1 : Int) (r2 : Option Int) (w : World) (hs2 : Kd.V (Kd.int .u64) 27 w w.heap.size (fun k_ => P2_ k_) (.slice A2 l2.length c2) l2) (hs3 : Kd.V (Kd.int .u64) 27 w w.heap.size (fun k_ => P3_ k_) (.slice A3 l3.length c3) l3) (hl_DB64 : Laid_DB64 w) (h : round_Ratio.f k a0 a1 l2 l3 a4 = some (r1, r2)) :
  Calls Tryd.prog 8 #[.int .i64 a0, .bool a1, .slice A2 l2.length c2, .slice A3 l3.length c3, .int .i64 a4] w fun e w' => e = .returned (.tuple #[.int .u64 r1, errW r2]) ∧ Below w.heap.size w w' := by
 have hu29 := Tryd.underlying29
 have hu55 := Tryd.underlying55
 have HO2 := Aside0.mk (show Kd.V (Kd.int .u64) 27 w w.heap.size (fun k_ => ((P2_ k_ ∨ P3_ k_) ∨ w.heap.size ≤ k_)) (.slice A2 l2.length c2) l2 from Kd.V_mono hs2 (fun k_ hk => .inl (.inl hk)))
 have HO3 := Aside0.mk (show Kd.V (Kd.int .u64) 27 w w.heap.size (fun k_ => ((P2_ k_ ∨ P3_ k_) ∨ w.heap.size ≤ k_)) (.slice A3 l3.length c3) l3 from Kd.V_mono hs3 (fun k_ hk => .inl (.inr hk)))
 have HB := Aside0.mk (Below.refl w.heap.size w)
 have HL_DB64 := Aside0.mk hl_DB64
 clear hl_DB64
 have H : ((round_format.f a0).bind fun bt176 => (if bt176.2.2 = true then ((some (([l2, l3] : List (List Int)) : List (List Int))).bind fun y179 => (round_Ratio.l0 k a0 a1 l2 l3 a4 bt176.1 bt176.2.1 y179 (y179.length : Int) 0)) else (some (0, some 5)))) = some (r1, r2) := h
 clear h
 replace H := Option.bind_eq_some_iff.mp H
 obtain ⟨⟨t176, t177, t178⟩, A60, H⟩ := H
 replace H : (if t178 = true then ((some (([l2, l3] : List (List Int)) : List (List Int))).bind fun y179 => (round_Ratio.l0 k a0 a1 l2 l3 a4 t176 t177 y179 (y179.length : Int) 0)) else (some (0, some 5))) = some (r1, r2) := H
 have A6 := Aside0.mk A60
 clear A60
 by_cases c7 : t178 = true
 ·subst c7
  have H1 : ((some (([l2, l3] : List (List Int)) : List (List Int))).bind fun y179 => (round_Ratio.l0 k a0 a1 l2 l3 a4 t176 t177 y179 (y179.length : Int) 0)) = some (r1, r2) := by rw [if_pos rfl] at H; exact H
  clear H
  have H := H1
  clear H1
  obtain ⟨y179, hy179⟩ : ∃ y_ : List (List Int), y_ = (([l2, l3] : List (List Int))) := ⟨_, rfl⟩
  replace H : (round_Ratio.l0 k a0 a1 l2 l3 a4 t176 t177 y179 (y179.length : Int) 0) = some (r1, r2) := by first | (rw [hy179]; with_reducible exact H) | (have H2_ := (Option.bind_some _ _).symm.trans H; rw [hy179]; with_reducible exact H2_) | (have H2_ := (Option.bind_some _ _).symm.trans H; with_reducible exact H2_) | with_reducible exact H | (rw [hy179]; exact H) | exact H
  have Ny179 := Aside0.mk hy179
  clear hy179
  have H' := Aside0.mk H
  clear H
  go_enter Tryd.func8, Tryd.ntmps8
  go_wp2_with (first | ((with_reducible refine gate_callee (f := 23) rfl ?_); refine goesL_ (some 30) rfl rfl Tryd.func23 (by kernel_rfl) rfl #[.int .i64 a0] rfl (by (try simp only [List.map_toArray, List.map_cons, List.map_nil]); first | done | rfl | (simp only [List.length_drop, List.length_take]; rfl)) ?_; (with_reducible refine (round_format.calls a0 t176 t177 true _ A6.out).mono ?_); rintro e w' ⟨rfl, ⟨nd, rfl⟩⟩; refine ⟨_, rfl, ?_⟩) | ((with_reducible refine gate_dst (N := 39) rfl ?_); refine Kd.N_lit (Kd.slice 27 (Kd.int .u64)) _ 25 ?hg (N' := 39) ?hd (xs := ([l2, l3] : List (List Int))) (inner := [.slice A2 l2.length c2, .slice A3 l3.length c3]) (ok := (fun k_ => ((P2_ k_ ∨ P3_ k_) ∨ w.heap.size ≤ k_))) (okp := (fun k_ => ((P2_ k_ ∨ P3_ k_) ∨ w.heap.size ≤ k_))) ?hr ?hp (fun _ hk => hk) ((show ∀ k_, w.heap.size ≤ k_ → (fun k_ => ((P2_ k_ ∨ P3_ k_) ∨ w.heap.size ≤ k_)) k_ from fun k_ hk => (.inr (Nat.le_trans (below_size (by repeat (first | (with_reducible first | exact HB.out | apply below_alloc | apply pw_below_drewN | apply below_drew1) | exact HB.out))) hk))) _ (Nat.le_refl _)) (Below.refl _ _) (Nat.le_refl _) (by simp) ?_; (case hd => rfl); (case hg => rfl); (case hr => first | (go_simp; done) | (go_simp; rfl)); (case hp => (first | (have HO2_ := Kd.V_drewN HO2.out nd; have HO3_ := Kd.V_drewN HO3.out nd; exact (Reps.one (show Kd.FK (Kd.slice 27 (Kd.int .u64)) _ _ l2 [.slice A2 l2.length c2] from (Kd.FK_slice_mk (Kd.V_reads' (Kd.V_mono (ok' := (fun k_ => ((P2_ k_ ∨ P3_ k_) ∨ w.heap.size ≤ k_))) (HO2_) (fun k_ hk => hk))).2.1 (Kd.V_F (Kd.V_mono (ok' := (fun k_ => ((P2_ k_ ∨ P3_ k_) ∨ w.heap.size ≤ k_))) (HO2_) (fun k_ hk => hk))))) (Reps.one (show Kd.FK (Kd.slice 27 (Kd.int .u64)) _ _ l3 [.slice A3 l3.length c3] from (Kd.FK_slice_mk (Kd.V_reads' (Kd.V_mono (ok' := (fun k_ => ((P2_ k_ ∨ P3_ k_) ∨ w.heap.size ≤ k_))) (HO3_) (fun k_ hk => hk))).2.1 (Kd.V_F (Kd.V_mono (ok' := (fun k_ => ((P2_ k_ ∨ P3_ k_) ∨ w.heap.size ≤ k_))) (HO3_) (fun k_ hk => hk))))) (Reps.none _ _)))) | exact (Reps.one (show Kd.FK (Kd.slice 27 (Kd.int .u64)) _ _ l2 [.slice A2 l2.length c2] from (Kd.FK_slice_mk (Kd.V_reads' (Kd.V_mono (ok' := (fun k_ => ((P2_ k_ ∨ P3_ k_) ∨ w.heap.size ≤ k_))) (HO2.out) (fun k_ hk => hk))).2.1 (Kd.V_F (Kd.V_mono (ok' := (fun k_ => ((P2_ k_ ∨ P3_ k_) ∨ w.heap.size ≤ k_))) (HO2.out) (fun k_ hk => hk))))) (Reps.one (show Kd.FK (Kd.slice 27 (Kd.int .u64)) _ _ l3 [.slice A3 l3.length c3] from (Kd.FK_slice_mk (Kd.V_reads' (Kd.V_mono (ok' := (fun k_ => ((P2_ k_ ∨ P3_ k_) ∨ w.heap.size ≤ k_))) (HO3.out) (fun k_ hk => hk))).2.1 (Kd.V_F (Kd.V_mono (ok' := (fun k_ => ((P2_ k_ ∨ P3_ k_) ∨ w.heap.size ≤ k_))) (HO3.out) (fun k_ hk => hk))))) (Reps.none _ _))))); intro v180 w8 ho9 hb hg_ hnew_; clear hg_ hnew_; (first | rw [← Ny179.out] at ho9 | (simp only [Int.reduceToNat] at ho9; rw [← Ny179.out] at ho9)); have n0_ := Aside0.mk (Kd.V_elder' (by (with_reducible repeat (first | apply Kd.V_alloc | apply Kd.V_drewN | apply Kd.V_drew)); exact HO2.out) (Kd.N_base ho9) hb); have n1_ := Aside0.mk (Kd.V_elder' (by (with_reducible repeat (first | apply Kd.V_alloc | apply Kd.V_drewN | apply Kd.V_drew)); exact HO3.out) (Kd.N_base ho9) hb); have n2_ := Aside0.mk (Kd.N_lower ho9 (below_size (by repeat (first | (with_reducible first | exact HB.out | apply below_alloc | apply pw_below_drewN | apply below_drew1) | exact HB.out)))); have n3_ := Aside0.mk (below_step (by repeat (first | (with_reducible first | exact HB.out | apply below_alloc | apply pw_below_drewN | apply below_drew1) | exact HB.out)) hb); clear HO2; clear HO3; clear HB; have HO2 := n0_; have HO3 := n1_; have HO181 := n2_; have HB := n3_; clear n0_ n1_ n2_ n3_; clear hb ho9; obtain ⟨Ao10, co10, eo10⟩ := Kd.N_slice HO181.out; subst eo10))
  go_loopg [41] k (fun kq v41 w' => ∃ (x41_1 : Int), v41 = .int .i64 x41_1 ∧ Aside0 (round_Ratio.l0 kq a0 a1 l2 l3 a4 t176 t177 y179 (y179.length : Int) x41_1 = some (r1, r2)) ∧ Aside0 (kq ≤ k) ∧ Aside0 (Kd.V (Kd.int .u64) 27 w' w.heap.size (fun k_ => ((P2_ k_ ∨ P3_ k_) ∨ w.heap.size ≤ k_) ∧ some k_ ≠ ((.slice Ao10 y179.length co10) : Value).ownBlock) (.slice A2 l2.length c2) l2) ∧ Aside0 (Kd.V (Kd.int .u64) 27 w' w.heap.size (fun k_ => ((P2_ k_ ∨ P3_ k_) ∨ w.heap.size ≤ k_) ∧ some k_ ≠ ((.slice Ao10 y179.length co10) : Value).ownBlock) (.slice A3 l3.length c3) l3) ∧ Aside0 (Kd.N (Kd.slice 27 (Kd.int .u64)) 25 w' w.heap.size (fun k_ => ((P2_ k_ ∨ P3_ k_) ∨ w.heap.size ≤ k_)) (.slice Ao10 y179.length co10) y179) ∧ Aside0 (Below w.heap.size w w'))
  case atStart => exact ⟨(0), (by first | rfl | (simp; done) | (simp [*]; done)), H', ⟨Nat.le_refl _⟩, ⟨by (with_reducible repeat (first | apply Kd.V_alloc | apply Kd.V_drewN | apply Kd.V_drew)); exact HO2.out⟩, ⟨by (with_reducible repeat (first | apply Kd.V_alloc | apply Kd.V_drewN | apply Kd.V_drew)); exact HO3.out⟩, ⟨by (with_reducible repeat (first | apply Kd.N_alloc | apply Kd.N_drewN | apply Kd.N_drew)); exact HO181.out⟩, ⟨by repeat (first | (with_reducible first | exact HB.out | apply below_alloc | apply pw_below_drewN | apply below_drew1) | exact HB.out)⟩⟩
  case round =>
   clear H'
   try clear c2
   try clear p2
   try clear c3
   try clear c7
   try clear c8
   obtain ⟨x41_1, rfl, HA, HK1, HO_2, HO_3, HO_39, HB⟩ := hrel
   cases gk with
   | zero => exact absurd HA.out (by simp [round_Ratio.l0])
   | succ k1 =>
    have H := HA.out
    clear HA
    simp only [round_Ratio.l0] at H
    by_cases c11 : x41_1 < (y179.length : Int)
    ·rw [if_pos c11] at H
     have c11b0 : decide (x41_1 < (y179.length : Int)) = true := decide_eq_true c11
     clear c11
     by_cases c12 : 0 ≤ x41_1
     ·rw [if_pos c12] at H
      have c12b0 : decide (0 ≤ x41_1) = true := decide_eq_true c12
      clear c12
      by_cases c13 : x41_1 < (y179.length : Int)
      ·rw [if_pos c13] at H
       have c13b0 : decide (x41_1 < (y179.length : Int)) = true := decide_eq_true c13
       clear c13
       replace H := Option.bind_eq_some_iff.mp H
       obtain ⟨t183, A140, H⟩ := H
       replace H : (if t183.isNone = true then (round_Ratio.l0 k1 a0 a1 l2 l3 a4 t176 t177 y179 (y179.length : Int) (wrap64 (x41_1 + 1))) else (some (0, some (t183.getD 0)))) = some (r1, r2) := H
       have A14 := Aside0.mk A140
       clear A140
       rcases t183 with _ | q184
       ·have H1 : (round_Ratio.l0 k1 a0 a1 l2 l3 a4 t176 t177 y179 (y179.length : Int) (wrap64 (x41_1 + 1))) = some (r1, r2) := by rw [if_pos (show (none : Option Int).isNone = true by rfl)] at H; exact H
        clear H
        have H := H1
        clear H1
        try simp only [errW_none, errW_some]
        have H' := Aside0.mk H
        clear H
        have p182 : 0 ≤ (x41_1 : Int) := of_decide_eq_true (by first | (with_reducible assumption) | assumption)
        have q182 : x41_1 < (y179.length : Int) := of_decide_eq_true (by first | (with_reducible assumption) | assumption)
        obtain ⟨ad182, A182_0, c182_0, e182, hx182_0, hl182_0, hi182_0⟩ := at_L1 (Kd.N_reads' HO_39.out).2.2 x41_1 p182 q182
        cases e182
        obtain ⟨ce182, hce182, hMe182, hcc182⟩ := Kd.N_get HO_39.out [] x41_1 p182 (by first | exact q182 | exact of_decide_eq_true (by first | (with_reducible assumption) | assumption) | (have e_ := (Kd.N_reads' HO_39.out).1; omega))
        obtain ⟨ua182_0, uc182_0, rfl, ul182_0, ge182_0⟩ := Kd.FK_slice_open hMe182
        have hv182_0 := hcc182 0 _ rfl
        rw [Nat.add_zero, show ((Kd.slice 27 (Kd.int .u64))).sz = 1 from rfl, Nat.mul_one] at hv182_0
        replace hv182_0 := Option.some.inj (hv182_0.symm.trans hx182_0)
        injection hv182_0 with hva_ hvn_ hvc_
        rw [hva_] at ge182_0
        rw [hvc_] at ul182_0
        have HL182_0 := Aside0.mk (show Kd.V (Kd.int .u64) 27 _ w.heap.size _ _ (rd_L1 y179 x41_1) from Kd.V_mk ul182_0 ge182_0)
        clear hva_ hvn_ hvc_ ge182_0 ul182_0
        clear hcc182 hce182
        have HR182_0 := Aside0.mk hi182_0
        have HC182_0 := Aside0.mk hl182_0
        clear hi182_0 hl182_0
        replace p182 := eq_true p182
        replace q182 := eq_true q182
        go_wp2_with (first | ((with_reducible refine gate_callee (f := 24) rfl ?_); refine goesL_ (some 46) rfl rfl Tryd.func24 (by kernel_rfl) rfl #[.slice A182_0 (rd_L1 y179 x41_1).length c182_0] rfl (by (try simp only [List.map_toArray, List.map_cons, List.map_nil]); first | done | rfl | (simp only [List.length_drop, List.length_take]; rfl)) ?_; (with_reducible refine (nat_Valid.calls _ _ (rd_L1 y179 x41_1) none _ ?side1 ?side2 A14.out).mono ?_); (case side1 => repeat (first | exact (by repeat (first | (with_reducible exact HR182_0.out) | (with_reducible refine Kd.C_alloc ?_ _) | (with_reducible refine Kd.C_drewN ?_ _) | (with_reducible refine Kd.C_drew ?_) | exact HR182_0.out)) | (with_reducible refine Kd.C_alloc ?_ _) | (with_reducible refine Kd.C_drewN ?_ _) | (with_reducible refine Kd.C_drew ?_))); (case side2 => exact HC182_0.out); rintro e w' ⟨rfl, ⟨nd, rfl⟩⟩; refine ⟨_, rfl, ?_⟩; (try simp only [errW_none, errW_some])))
        go_roundg k1
        case measure => have := HK1.out; omega
        case rel => exact ⟨(wrap64 (x41_1 + 1)), (by first | rfl | (simp; done) | (simp [*]; done)), H', ⟨by have := HK1.out; omega⟩, ⟨by (with_reducible repeat (first | apply Kd.V_alloc | apply Kd.V_drewN | apply Kd.V_drew)); exact HO_2.out⟩, ⟨by (with_reducible repeat (first | apply Kd.V_alloc | apply Kd.V_drewN | apply Kd.V_drew)); exact HO_3.out⟩, ⟨by (with_reducible repeat (first | apply Kd.N_alloc | apply Kd.N_drewN | apply Kd.N_drew)); exact HO_39.out⟩, ⟨by repeat (first | (with_reducible first | exact HB.out | apply below_alloc | apply pw_below_drewN | apply below_drew1) | exact HB.out)⟩⟩
       ·have H1 : (some (0, some q184)) = some (r1, r2) := by rw [if_neg (show ¬ (some q184).isNone = true by simp)] at H; exact H
        clear H
        have H := H1
        clear H1
        try simp only [errW_none, errW_some]
        simp only [Option.some.injEq, Prod.mk.injEq] at H
        obtain ⟨rfl, rfl⟩ := H
        have p182 : 0 ≤ (x41_1 : Int) := of_decide_eq_true (by first | (with_reducible assumption) | assumption)
        have q182 : x41_1 < (y179.length : Int) := of_decide_eq_true (by first | (with_reducible assumption) | assumption)
        obtain ⟨ad182, A182_0, c182_0, e182, hx182_0, hl182_0, hi182_0⟩ := at_L1 (Kd.N_reads' HO_39.out).2.2 x41_1 p182 q182
        cases e182
        obtain ⟨ce182, hce182, hMe182, hcc182⟩ := Kd.N_get HO_39.out [] x41_1 p182 (by first | exact q182 | exact of_decide_eq_true (by first | (with_reducible assumption) | assumption) | (have e_ := (Kd.N_reads' HO_39.out).1; omega))
        obtain ⟨ua182_0, uc182_0, rfl, ul182_0, ge182_0⟩ := Kd.FK_slice_open hMe182
        have hv182_0 := hcc182 0 _ rfl
        rw [Nat.add_zero, show ((Kd.slice 27 (Kd.int .u64))).sz = 1 from rfl, Nat.mul_one] at hv182_0
        replace hv182_0 := Option.some.inj (hv182_0.symm.trans hx182_0)
        injection hv182_0 with hva_ hvn_ hvc_
        rw [hva_] at ge182_0
        rw [hvc_] at ul182_0
        have HL182_0 := Aside0.mk (show Kd.V (Kd.int .u64) 27 _ w.heap.size _ _ (rd_L1 y179 x41_1) from Kd.V_mk ul182_0 ge182_0)
        clear hva_ hvn_ hvc_ ge182_0 ul182_0
        clear hcc182 hce182
        have HR182_0 := Aside0.mk hi182_0
        have HC182_0 := Aside0.mk hl182_0
        clear hi182_0 hl182_0
        replace p182 := eq_true p182
        replace q182 := eq_true q182
        go_wp2_with (first | ((with_reducible refine gate_callee (f := 24) rfl ?_); refine goesL_ (some 46) rfl rfl Tryd.func24 (by kernel_rfl) rfl #[.slice A182_0 (rd_L1 y179 x41_1).length c182_0] rfl (by (try simp only [List.map_toArray, List.map_cons, List.map_nil]); first | done | rfl | (simp only [List.length_drop, List.length_take]; rfl)) ?_; (with_reducible refine (nat_Valid.calls _ _ (rd_L1 y179 x41_1) (some q184) _ ?side1 ?side2 A14.out).mono ?_); (case side1 => repeat (first | exact (by repeat (first | (with_reducible exact HR182_0.out) | (with_reducible refine Kd.C_alloc ?_ _) | (with_reducible refine Kd.C_drewN ?_ _) | (with_reducible refine Kd.C_drew ?_) | exact HR182_0.out)) | (with_reducible refine Kd.C_alloc ?_ _) | (with_reducible refine Kd.C_drewN ?_ _) | (with_reducible refine Kd.C_drew ?_))); (case side2 => exact HC182_0.out); rintro e w' ⟨rfl, ⟨nd, rfl⟩⟩; refine ⟨_, rfl, ?_⟩; (try simp only [errW_none, errW_some])))
        go_ret2
        exact ⟨by first | rfl | (simp [errW_none, errW_some] <;> rfl) | (simp [*, errW_none, errW_some] <;> rfl), by repeat (first | (with_reducible first | exact HB.out | apply below_alloc | apply pw_below_drewN | apply below_drew1) | exact HB.out)⟩
      ·rw [if_neg c13] at H
       exact absurd H (by simp)
     ·rw [if_neg c12] at H
      exact absurd H (by simp)
    ·rw [if_neg c11] at H
     have c11b0 : decide (x41_1 < (y179.length : Int)) = false := decide_eq_false c11
     clear c11
     by_cases c15 : (l3.length : Int) = 0
     ·rw [if_pos c15] at H
      have c15b0 : ((l3.length : Int) == 0) = true := beq_iff_eq.mpr c15
      have c15b1 : ((l3.length : Int) != 0) = false := bne_eq_false_iff_eq.mpr c15
      clear c15
      simp only [Option.some.injEq, Prod.mk.injEq] at H
      obtain ⟨rfl, rfl⟩ := H
      go_wp2
      go_ret2
      exact ⟨by first | rfl | (simp [errW_none, errW_some] <;> rfl) | (simp [*, errW_none, errW_some] <;> rfl), by repeat (first | (with_reducible first | exact HB.out | apply below_alloc | apply pw_below_drewN | apply below_drew1) | exact HB.out)⟩
     ·rw [if_neg c15] at H
      have c15b0 : ((l3.length : Int) == 0) = false := beq_eq_false_iff_ne.mpr c15
      have c15b1 : ((l3.length : Int) != 0) = true := bne_iff_ne.mpr c15
      have c15b2 : ¬ (l3 = []) := fun h_ => c15 (by rw [h_]; rfl)
      replace H := Option.bind_eq_some_iff.mp H
      obtain ⟨t185, A160, H⟩ := H
      replace H : (if t185 = true then (some (0, some 1)) else (if (l2.length : Int) = 0 then ((bits_Zero.f k1 a1 a0).bind fun bt186 => (some (bt186.1, bt186.2))) else ((nat_Bits.f l2).bind fun bt188 => ((nat_Bits.f l3).bind fun bt190 => ((round_shifted.f k1 l2 (mx (wrap64 (-(wrap64 (bt188.1 - bt190.1)))) 0)).bind fun t192 => ((round_shifted.f k1 l3 (mx (wrap64 (bt188.1 - bt190.1)) 0)).bind fun t195 => ((round_same.f t192 t195).bind fun bt198 => ((round_less.f k1 bt198.1 bt198.2).bind fun t204 => (if t204 = true then ((round_double.f k1 bt198.1).bind fun t205 => (round_Ratio.j1 k1 a0 a1 a4 t176 t177 (wrap64 ((wrap64 (bt188.1 - bt190.1)) - 1)) t205 bt198.2)) else (round_Ratio.j1 k1 a0 a1 a4 t176 t177 (wrap64 (bt188.1 - bt190.1)) bt198.1 bt198.2)))))))))) = some (r1, r2) := H
      have A16 := Aside0.mk A160
      clear A160
      by_cases c17 : t185 = true
      ·subst c17
       have H1 : (some (0, some 1)) = some (r1, r2) := by rw [if_pos rfl] at H; exact H
       clear H
       have H := H1
       clear H1
       simp only [Option.some.injEq, Prod.mk.injEq] at H
       obtain ⟨rfl, rfl⟩ := H
       go_wp2_with (first | ((with_reducible refine gate_callee (f := 25) rfl ?_); refine goesL_ (some 58) rfl rfl Tryd.func25 (by kernel_rfl) rfl #[.int .i64 a4] rfl (by (try simp only [List.map_toArray, List.map_cons, List.map_nil]); first | done | rfl | (simp only [List.length_drop, List.length_take]; rfl)) ?_; (with_reducible refine (round_far.calls a4 true _ A16.out).mono ?_); rintro e w' ⟨rfl, ⟨nd, rfl⟩⟩; refine ⟨_, rfl, ?_⟩))
       go_ret2
       exact ⟨by first | rfl | (simp [errW_none, errW_some] <;> rfl) | (simp [*, errW_none, errW_some] <;> rfl), by repeat (first | (with_reducible first | exact HB.out | apply below_alloc | apply pw_below_drewN | apply below_drew1) | exact HB.out)⟩
      ·replace c17 := Bool.eq_false_iff.mpr c17
       subst c17
       have H1 : (if (l2.length : Int) = 0 then ((bits_Zero.f k1 a1 a0).bind fun bt186 => (some (bt186.1, bt186.2))) else ((nat_Bits.f l2).bind fun bt188 => ((nat_Bits.f l3).bind fun bt190 => ((round_shifted.f k1 l2 (mx (wrap64 (-(wrap64 (bt188.1 - bt190.1)))) 0)).bind fun t192 => ((round_shifted.f k1 l3 (mx (wrap64 (bt188.1 - bt190.1)) 0)).bind fun t195 => ((round_same.f t192 t195).bind fun bt198 => ((round_less.f k1 bt198.1 bt198.2).bind fun t204 => (if t204 = true then ((round_double.f k1 bt198.1).bind fun t205 => (round_Ratio.j1 k1 a0 a1 a4 t176 t177 (wrap64 ((wrap64 (bt188.1 - bt190.1)) - 1)) t205 bt198.2)) else (round_Ratio.j1 k1 a0 a1 a4 t176 t177 (wrap64 (bt188.1 - bt190.1)) bt198.1 bt198.2))))))))) = some (r1, r2) := by rw [if_neg (show ¬ (false = true) by decide)] at H; exact H
       clear H
       have H := H1
       clear H1
       by_cases c18 : (l2.length : Int) = 0
       ·rw [if_pos c18] at H
        have c18b0 : ((l2.length : Int) == 0) = true := beq_iff_eq.mpr c18
        have c18b1 : ((l2.length : Int) != 0) = false := bne_eq_false_iff_eq.mpr c18
        clear c18
        replace H := Option.bind_eq_some_iff.mp H
        obtain ⟨⟨t186, t187⟩, A190, H⟩ := H
        replace H : (some (t186, t187)) = some (r1, r2) := H
        have A19 := Aside0.mk A190
        clear A190
        simp only [Option.some.injEq, Prod.mk.injEq] at H
        obtain ⟨rfl, rfl⟩ := H
        go_wp2_with (first | ((with_reducible refine gate_callee (f := 25) rfl ?_); refine goesL_ (some 58) rfl rfl Tryd.func25 (by kernel_rfl) rfl #[.int .i64 a4] rfl (by (try simp only [List.map_toArray, List.map_cons, List.map_nil]); first | done | rfl | (simp only [List.length_drop, List.length_take]; rfl)) ?_; (with_reducible refine (round_far.calls a4 false _ A16.out).mono ?_); rintro e w' ⟨rfl, ⟨nd, rfl⟩⟩; refine ⟨_, rfl, ?_⟩) | ((with_reducible refine gate_callee (f := 26) rfl ?_); refine goesL_ (some 66) rfl rfl Tryd.func26 (by kernel_rfl) rfl #[.bool a1, .int .i64 a0] rfl (by (try simp only [List.map_toArray, List.map_cons, List.map_nil]); first | done | rfl | (simp only [List.length_drop, List.length_take]; rfl)) ?_; (with_reducible refine (bits_Zero.calls k1 a1 a0 t186 t187 _ ?side1 A19.out).mono ?_); (case side1 => exact Laid_DB64.of_below HL_DB64.out (by repeat (first | (with_reducible first | exact HB.out | apply below_alloc | apply pw_below_drewN | apply below_drew1) | exact HB.out))); rintro e w20 ⟨rfl, hb⟩; refine ⟨_, rfl, ?_⟩; have n0_ := Aside0.mk (Kd.V_below (by (with_reducible repeat (first | apply Kd.V_alloc | apply Kd.V_drewN | apply Kd.V_drew)); exact HO_2.out) hb); have n1_ := Aside0.mk (Kd.V_below (by (with_reducible repeat (first | apply Kd.V_alloc | apply Kd.V_drewN | apply Kd.V_drew)); exact HO_3.out) hb); have n2_ := Aside0.mk (Kd.N_below (by (with_reducible repeat (first | apply Kd.N_alloc | apply Kd.N_drewN | apply Kd.N_drew)); exact HO_39.out) hb); have n3_ := Aside0.mk (below_step (by repeat (first | (with_reducible first | exact HB.out | apply below_alloc | apply pw_below_drewN | apply below_drew1) | exact HB.out)) hb); clear HO_2; clear HO_3; clear HO_39; clear HB; have HO_2 := n0_; have HO_3 := n1_; have HO_39 := n2_; have HB := n3_; clear n0_ n1_ n2_ n3_; (try clear hb); (try clear hb2); (try clear hk); (try clear hi); (try simp only [errW_none, errW_some])))
        go_ret2
        exact ⟨by first | rfl | (simp [errW_none, errW_some] <;> rfl) | (simp [*, errW_none, errW_some] <;> rfl), by repeat (first | (with_reducible first | exact HB.out | apply below_alloc | apply pw_below_drewN | apply below_drew1) | exact HB.out)⟩
       ·rw [if_neg c18] at H
        have c18b0 : ((l2.length : Int) == 0) = false := beq_eq_false_iff_ne.mpr c18
        have c18b1 : ((l2.length : Int) != 0) = true := bne_iff_ne.mpr c18
        have c18b2 : ¬ (l2 = []) := fun h_ => c18 (by rw [h_]; rfl)
        replace H := Option.bind_eq_some_iff.mp H
        obtain ⟨⟨t188, t189⟩, A210, H⟩ := H
        replace H : ((nat_Bits.f l3).bind fun bt190 => ((round_shifted.f k1 l2 (mx (wrap64 (-(wrap64 (t188 - bt190.1)))) 0)).bind fun t192 => ((round_shifted.f k1 l3 (mx (wrap64 (t188 - bt190.1)) 0)).bind fun t195 => ((round_same.f t192 t195).bind fun bt198 => ((round_less.f k1 bt198.1 bt198.2).bind fun t204 => (if t204 = true then ((round_double.f k1 bt198.1).bind fun t205 => (round_Ratio.j1 k1 a0 a1 a4 t176 t177 (wrap64 ((wrap64 (t188 - bt190.1)) - 1)) t205 bt198.2)) else (round_Ratio.j1 k1 a0 a1 a4 t176 t177 (wrap64 (t188 - bt190.1)) bt198.1 bt198.2))))))) = some (r1, r2) := H
        have A21 := Aside0.mk A210
        clear A210
        replace H := Option.bind_eq_some_iff.mp H
        obtain ⟨⟨t190, t191⟩, A220, H⟩ := H
        replace H : ((round_shifted.f k1 l2 (mx (wrap64 (-(wrap64 (t188 - t190)))) 0)).bind fun t192 => ((round_shifted.f k1 l3 (mx (wrap64 (t188 - t190)) 0)).bind fun t195 => ((round_same.f t192 t195).bind fun bt198 => ((round_less.f k1 bt198.1 bt198.2).bind fun t204 => (if t204 = true then ((round_double.f k1 bt198.1).bind fun t205 => (round_Ratio.j1 k1 a0 a1 a4 t176 t177 (wrap64 ((wrap64 (t188 - t190)) - 1)) t205 bt198.2)) else (round_Ratio.j1 k1 a0 a1 a4 t176 t177 (wrap64 (t188 - t190)) bt198.1 bt198.2)))))) = some (r1, r2) := H
        have A22 := Aside0.mk A220
        clear A220
        obtain ⟨ji23, hji23⟩ : ∃ j_ : Int, (mx (wrap64 (-(wrap64 (t188 - t190)))) 0) = j_ := ⟨_, rfl⟩
        replace H : ((round_shifted.f k1 l2 (ji23)).bind fun t192 => ((round_shifted.f k1 l3 (mx (wrap64 (t188 - t190)) 0)).bind fun t195 => ((round_same.f t192 t195).bind fun bt198 => ((round_less.f k1 bt198.1 bt198.2).bind fun t204 => (if t204 = true then ((round_double.f k1 bt198.1).bind fun t205 => (round_Ratio.j1 k1 a0 a1 a4 t176 t177 (wrap64 ((wrap64 (t188 - t190)) - 1)) t205 bt198.2)) else (round_Ratio.j1 k1 a0 a1 a4 t176 t177 (wrap64 (t188 - t190)) bt198.1 bt198.2)))))) = some (r1, r2) := by first | (rw [hji23] at H; exact H) | (simp only [hji23] at H ⊢; exact H)
        (try rw [hji23] at A16)
        (try rw [hji23] at A21)
        (try rw [hji23] at A22)
        (try (have hji23l : 0 ≤ ji23 := by (rw [← hji23]; unfold mx; (repeat' split) <;> omega)))
        (try (have hji23m : 0 ≤ ji23 := by omega))
        have hji23_ : (if (wrap64 (-(wrap64 (t188 - t190)))) < 0 then 0 else (wrap64 (-(wrap64 (t188 - t190))))) = ji23 := hji23
        replace H := Option.bind_eq_some_iff.mp H
        obtain ⟨t192, A240, H⟩ := H
        replace H : ((round_shifted.f k1 l3 (mx (wrap64 (t188 - t190)) 0)).bind fun t195 => ((round_same.f t192 t195).bind fun bt198 => ((round_less.f k1 bt198.1 bt198.2).bind fun t204 => (if t204 = true then ((round_double.f k1 bt198.1).bind fun t205 => (round_Ratio.j1 k1 a0 a1 a4 t176 t177 (wrap64 ((wrap64 (t188 - t190)) - 1)) t205 bt198.2)) else (round_Ratio.j1 k1 a0 a1 a4 t176 t177 (wrap64 (t188 - t190)) bt198.1 bt198.2))))) = some (r1, r2) := H
        have A24 := Aside0.mk A240
        clear A240
        obtain ⟨ji25, hji25⟩ : ∃ j_ : Int, (mx (wrap64 (t188 - t190)) 0) = j_ := ⟨_, rfl⟩
        replace H : ((round_shifted.f k1 l3 (ji25)).bind fun t195 => ((round_same.f t192 t195).bind fun bt198 => ((round_less.f k1 bt198.1 bt198.2).bind fun t204 => (if t204 = true then ((round_double.f k1 bt198.1).bind fun t205 => (round_Ratio.j1 k1 a0 a1 a4 t176 t177 (wrap64 ((wrap64 (t188 - t190)) - 1)) t205 bt198.2)) else (round_Ratio.j1 k1 a0 a1 a4 t176 t177 (wrap64 (t188 - t190)) bt198.1 bt198.2))))) = some (r1, r2) := by first | (rw [hji25] at H; exact H) | (simp only [hji25] at H ⊢; exact H)
        (try rw [hji25] at A16)
        (try rw [hji25] at A21)
        (try rw [hji25] at A22)
        (try rw [hji25] at A24)
        (try (have hji25l : 0 ≤ ji25 := by (rw [← hji25]; unfold mx; (repeat' split) <;> omega)))
        (try (have hji25m : 0 ≤ ji25 := by omega))
        have hji25_ : (if (wrap64 (t188 - t190)) < 0 then 0 else (wrap64 (t188 - t190))) = ji25 := hji25
        replace H := Option.bind_eq_some_iff.mp H
        obtain ⟨t195, A260, H⟩ := H
        replace H : ((round_same.f t192 t195).bind fun bt198 => ((round_less.f k1 bt198.1 bt198.2).bind fun t204 => (if t204 = true then ((round_double.f k1 bt198.1).bind fun t205 => (round_Ratio.j1 k1 a0 a1 a4 t176 t177 (wrap64 ((wrap64 (t188 - t190)) - 1)) t205 bt198.2)) else (round_Ratio.j1 k1 a0 a1 a4 t176 t177 (wrap64 (t188 - t190)) bt198.1 bt198.2)))) = some (r1, r2) := H
        have A26 := Aside0.mk A260
        clear A260
        replace H := Option.bind_eq_some_iff.mp H
        obtain ⟨⟨t198, t199⟩, A270, H⟩ := H
        replace H : ((round_less.f k1 t198 t199).bind fun t204 => (if t204 = true then ((round_double.f k1 t198).bind fun t205 => (round_Ratio.j1 k1 a0 a1 a4 t176 t177 (wrap64 ((wrap64 (t188 - t190)) - 1)) t205 t199)) else (round_Ratio.j1 k1 a0 a1 a4 t176 t177 (wrap64 (t188 - t190)) t198 t199))) = some (r1, r2) := H
        have A27 := Aside0.mk A270
        clear A270
        replace H := Option.bind_eq_some_iff.mp H
        obtain ⟨t204, A280, H⟩ := H
        replace H : (if t204 = true then ((round_double.f k1 t198).bind fun t205 => (round_Ratio.j1 k1 a0 a1 a4 t176 t177 (wrap64 ((wrap64 (t188 - t190)) - 1)) t205 t199)) else (round_Ratio.j1 k1 a0 a1 a4 t176 t177 (wrap64 (t188 - t190)) t198 t199)) = some (r1, r2) := H
        have A28 := Aside0.mk A280
        clear A280
        have HC29 := Aside0.mk H
        clear H
        go_upto_if 97 with (first | ((with_reducible refine gate_callee (f := 25) rfl ?_); refine goesL_ (some 58) rfl rfl Tryd.func25 (by kernel_rfl) rfl #[.int .i64 a4] rfl (by (try simp only [List.map_toArray, List.map_cons, List.map_nil]); first | done | rfl | (simp only [List.length_drop, List.length_take]; rfl)) ?_; (with_reducible refine (round_far.calls a4 false _ A16.out).mono ?_); rintro e w' ⟨rfl, ⟨nd, rfl⟩⟩; refine ⟨_, rfl, ?_⟩) | ((with_reducible refine gate_callee (f := 27) rfl ?_); refine goesL_ (some 71) rfl rfl Tryd.func27 (by kernel_rfl) rfl #[.slice A2 l2.length c2] rfl (by (try simp only [List.map_toArray, List.map_cons, List.map_nil]); first | done | rfl | (simp only [List.length_drop, List.length_take]; rfl)) ?_; (with_reducible refine (nat_Bits.calls _ _ l2 t188 t189 _ ?side1 ?side2 A21.out).mono ?_); (case side1 => repeat (first | exact (Kd.V_reads' HO_2.out).2.2 | (with_reducible refine Kd.C_alloc ?_ _) | (with_reducible refine Kd.C_drewN ?_ _) | (with_reducible refine Kd.C_drew ?_))); (case side2 => exact (Kd.V_reads' HO_2.out).2.1); rintro e w30 ⟨rfl, hb⟩; refine ⟨_, rfl, ?_⟩; have n0_ := Aside0.mk (Kd.V_below (by (with_reducible repeat (first | apply Kd.V_alloc | apply Kd.V_drewN | apply Kd.V_drew)); exact HO_2.out) hb); have n1_ := Aside0.mk (Kd.V_below (by (with_reducible repeat (first | apply Kd.V_alloc | apply Kd.V_drewN | apply Kd.V_drew)); exact HO_3.out) hb); have n2_ := Aside0.mk (Kd.N_below (by (with_reducible repeat (first | apply Kd.N_alloc | apply Kd.N_drewN | apply Kd.N_drew)); exact HO_39.out) hb); have n3_ := Aside0.mk (below_step (by repeat (first | (with_reducible first | exact HB.out | apply below_alloc | apply pw_below_drewN | apply below_drew1) | exact HB.out)) hb); clear HO_2; clear HO_3; clear HO_39; clear HB; have HO_2 := n0_; have HO_3 := n1_; have HO_39 := n2_; have HB := n3_; clear n0_ n1_ n2_ n3_; (try clear hb); (try clear hb2); (try clear hk); (try clear hi); (try simp only [errW_none, errW_some])) | ((with_reducible refine gate_callee (f := 27) rfl ?_); refine goesL_ (some 76) rfl rfl Tryd.func27 (by kernel_rfl) rfl #[.slice A3 l3.length c3] rfl (by (try simp only [List.map_toArray, List.map_cons, List.map_nil]); first | done | rfl | (simp only [List.length_drop, List.length_take]; rfl)) ?_; (with_reducible refine (nat_Bits.calls _ _ l3 t190 t191 _ ?side1 ?side2 A22.out).mono ?_); (case side1 => repeat (first | exact (Kd.V_reads' HO_3.out).2.2 | (with_reducible refine Kd.C_alloc ?_ _) | (with_reducible refine Kd.C_drewN ?_ _) | (with_reducible refine Kd.C_drew ?_))); (case side2 => exact (Kd.V_reads' HO_3.out).2.1); rintro e w31 ⟨rfl, hb⟩; refine ⟨_, rfl, ?_⟩; have n0_ := Aside0.mk (Kd.V_below (by (with_reducible repeat (first | apply Kd.V_alloc | apply Kd.V_drewN | apply Kd.V_drew)); exact HO_2.out) hb); have n1_ := Aside0.mk (Kd.V_below (by (with_reducible repeat (first | apply Kd.V_alloc | apply Kd.V_drewN | apply Kd.V_drew)); exact HO_3.out) hb); have n2_ := Aside0.mk (Kd.N_below (by (with_reducible repeat (first | apply Kd.N_alloc | apply Kd.N_drewN | apply Kd.N_drew)); exact HO_39.out) hb); have n3_ := Aside0.mk (below_step (by repeat (first | (with_reducible first | exact HB.out | apply below_alloc | apply pw_below_drewN | apply below_drew1) | exact HB.out)) hb); clear HO_2; clear HO_3; clear HO_39; clear HB; have HO_2 := n0_; have HO_3 := n1_; have HO_39 := n2_; have HB := n3_; clear n0_ n1_ n2_ n3_; (try clear hb); (try clear hb2); (try clear hk); (try clear hi); (try simp only [errW_none, errW_some])) | ((with_reducible refine gate_callee (f := 29) rfl ?_); refine goesL_ (some 87) rfl rfl Tryd.func29 (by kernel_rfl) rfl #[.slice A2 l2.length c2, .int .i64 ji23] rfl (by (try simp only [List.map_toArray, List.map_cons, List.map_nil]); first | done | (simp only [hji23]; rfl) | rfl | (simp only [List.length_drop, List.length_take]; rfl)) ?_; (with_reducible refine (round_shifted.calls k1 _ _ l2 ji23 t192 _ ?side1 ?side2 A24.out).mono ?_); (case side1 => repeat (first | exact (Kd.V_reads' HO_2.out).2.2 | (with_reducible refine Kd.C_alloc ?_ _) | (with_reducible refine Kd.C_drewN ?_ _) | (with_reducible refine Kd.C_drew ?_))); (case side2 => exact (Kd.V_reads' HO_2.out).2.1); rintro e w32 ⟨v193, rfl, ho0, hb⟩; refine ⟨_, rfl, ?_⟩; have n0_ := Aside0.mk (Kd.V_elder' (by (with_reducible repeat (first | apply Kd.V_alloc | apply Kd.V_drewN | apply Kd.V_drew)); exact HO_2.out) (Kd.R_base ho0) hb); have n1_ := Aside0.mk (Kd.V_elder' (by (with_reducible repeat (first | apply Kd.V_alloc | apply Kd.V_drewN | apply Kd.V_drew)); exact HO_3.out) (Kd.R_base ho0) hb); have n2_ := Aside0.mk (Kd.N_elder' (by (with_reducible repeat (first | apply Kd.N_alloc | apply Kd.N_drewN | apply Kd.N_drew)); exact HO_39.out) (Kd.R_base ho0) hb); have n3_ := Aside0.mk (Kd.R_lower (Kd.R_newM (M := fun k_ => (w.heap.size ≤ k_)) ho0 (below_size (by repeat (first | (with_reducible first | exact HB.out | apply below_alloc | apply pw_below_drewN | apply below_drew1) | exact HB.out))) (fun k_ h_ => h_)) (below_size (by repeat (first | (with_reducible first | exact HB.out | apply below_alloc | apply pw_below_drewN | apply below_drew1) | exact HB.out)))); have n4_ := Aside0.mk (below_step (by repeat (first | (with_reducible first | exact HB.out | apply below_alloc | apply pw_below_drewN | apply below_drew1) | exact HB.out)) hb); clear HO_2; clear HO_3; clear HO_39; clear HB; have HO_2 := n0_; have HO_3 := n1_; have HO_39 := n2_; have HO194 := n3_; have HB := n4_; clear n0_ n1_ n2_ n3_ n4_; (try clear hb); (try clear hb2); (try clear hk); (try clear hi); (try clear ho0)) | ((with_reducible refine gate_callee (f := 29) rfl ?_); refine goesL_ (some 91) rfl rfl Tryd.func29 (by kernel_rfl) rfl #[.slice A3 l3.length c3, .int .i64 ji25] rfl (by (try simp only [List.map_toArray, List.map_cons, List.map_nil]); first | done | (simp only [hji25]; rfl) | rfl | (simp only [List.length_drop, List.length_take]; rfl)) ?_; (with_reducible refine (round_shifted.calls k1 _ _ l3 ji25 t195 _ ?side1 ?side2 A26.out).mono ?_); (case side1 => repeat (first | exact (Kd.V_reads' HO_3.out).2.2 | (with_reducible refine Kd.C_alloc ?_ _) | (with_reducible refine Kd.C_drewN ?_ _) | (with_reducible refine Kd.C_drew ?_))); (case side2 => exact (Kd.V_reads' HO_3.out).2.1); rintro e w33 ⟨v196, rfl, ho0, hb⟩; refine ⟨_, rfl, ?_⟩; have n0_ := Aside0.mk (Kd.V_elder' (by (with_reducible repeat (first | apply Kd.V_alloc | apply Kd.V_drewN | apply Kd.V_drew)); exact HO_2.out) (Kd.R_base ho0) hb); have n1_ := Aside0.mk (Kd.V_elder' (by (with_reducible repeat (first | apply Kd.V_alloc | apply Kd.V_drewN | apply Kd.V_drew)); exact HO_3.out) (Kd.R_base ho0) hb); have n2_ := Aside0.mk (Kd.N_elder' (by (with_reducible repeat (first | apply Kd.N_alloc | apply Kd.N_drewN | apply Kd.N_drew)); exact HO_39.out) (Kd.R_base ho0) hb); have n3_ := Aside0.mk (Kd.R_elder' (by (with_reducible repeat (first | apply Kd.R_alloc | apply Kd.R_drewN | apply Kd.R_drew)); exact HO194.out) (Kd.R_base ho0) hb); have n4_ := Aside0.mk (Kd.R_lower (Kd.R_new' (Kd.R_newM (M := fun k_ => (w.heap.size ≤ k_)) ho0 (below_size (by repeat (first | (with_reducible first | exact HB.out | apply below_alloc | apply pw_below_drewN | apply below_drew1) | exact HB.out))) (fun k_ h_ => h_)) (Kd.R_lt (by (with_reducible repeat (first | apply Kd.R_alloc | apply Kd.R_drewN | apply Kd.R_drew)); exact HO194.out))) (below_size (by repeat (first | (with_reducible first | exact HB.out | apply below_alloc | apply pw_below_drewN | apply below_drew1) | exact HB.out)))); have n5_ := Aside0.mk (below_step (by repeat (first | (with_reducible first | exact HB.out | apply below_alloc | apply pw_below_drewN | apply below_drew1) | exact HB.out)) hb); clear HO_2; clear HO_3; clear HO_39; clear HO194; clear HB; have HO_2 := n0_; have HO_3 := n1_; have HO_39 := n2_; have HO194 := n3_; have HO197 := n4_; have HB := n5_; clear n0_ n1_ n2_ n3_ n4_ n5_; (try clear hb); (try clear hb2); (try clear hk); (try clear hi); (try clear ho0); obtain ⟨Ao34, co34, eo34⟩ := Kd.R_slice HO194.out; subst eo34; obtain ⟨Ao35, co35, eo35⟩ := Kd.R_slice HO197.out; subst eo35) | ((with_reducible refine gate_callee (f := 28) rfl ?_); refine goesL_ (some 92) rfl rfl Tryd.func28 (by kernel_rfl) rfl #[.slice Ao34 t192.length co34, .slice Ao35 t195.length co35] rfl (by (try simp only [List.map_toArray, List.map_cons, List.map_nil]); first | done | rfl | (simp only [List.length_drop, List.length_take]; rfl)) ?_; (with_reducible refine (round_same.calls _ _ t192 _ _ t195 t198 t199 _ ?side1 ?side2 ?side3 ?side4 A27.out).mono ?_); (case side1 => repeat (first | exact (Kd.R_reads' HO194.out).2.2 | (with_reducible refine Kd.C_alloc ?_ _) | (with_reducible refine Kd.C_drewN ?_ _) | (with_reducible refine Kd.C_drew ?_))); (case side2 => exact (Kd.R_reads' HO194.out).2.1); (case side3 => repeat (first | exact (Kd.R_reads' HO197.out).2.2 | (with_reducible refine Kd.C_alloc ?_ _) | (with_reducible refine Kd.C_drewN ?_ _) | (with_reducible refine Kd.C_drew ?_))); (case side4 => exact (Kd.R_reads' HO197.out).2.1); rintro e w36 ⟨v200, v202, rfl, ho0, ho1, hb⟩; refine ⟨_, rfl, ?_⟩; have n0_ := Aside0.mk (Kd.V_mono (Kd.V_told (Kd.V_told (Kd.V_old (by (with_reducible repeat (first | apply Kd.V_alloc | apply Kd.V_drewN | apply Kd.V_drew)); exact HO_2.out) hb) (Kd.R_base ho0)) (Kd.R_base ho1)) (fun _ h_ => h_.1)); have n1_ := Aside0.mk (Kd.V_mono (Kd.V_told (Kd.V_told (Kd.V_old (by (with_reducible repeat (first | apply Kd.V_alloc | apply Kd.V_drewN | apply Kd.V_drew)); exact HO_3.out) hb) (Kd.R_base ho0)) (Kd.R_base ho1)) (fun _ h_ => h_.1)); have n2_ := Aside0.mk (Kd.N_mono (Kd.N_told (Kd.N_told (Kd.N_old (by (with_reducible repeat (first | apply Kd.N_alloc | apply Kd.N_drewN | apply Kd.N_drew)); exact HO_39.out) hb) (Kd.R_base ho0)) (Kd.R_base ho1)) (fun _ h_ => h_.1)); have n3_ := Aside0.mk (Kd.R_mono (Kd.R_told (Kd.R_told (Kd.R_old (by (with_reducible repeat (first | apply Kd.R_alloc | apply Kd.R_drewN | apply Kd.R_drew)); exact HO194.out) hb) (Kd.R_base ho0)) (Kd.R_base ho1)) (fun _ h_ => h_.1)); have n4_ := Aside0.mk (Kd.R_mono (Kd.R_told (Kd.R_told (Kd.R_old (by (with_reducible repeat (first | apply Kd.R_alloc | apply Kd.R_drewN | apply Kd.R_drew)); exact HO197.out) hb) (Kd.R_base ho0)) (Kd.R_base ho1)) (fun _ h_ => h_.1)); have n5_ := Aside0.mk (Kd.R_lower (Kd.R_new' (Kd.R_new' (Kd.R_newM (M := fun k_ => (w.heap.size ≤ k_)) ho0 (below_size (by repeat (first | (with_reducible first | exact HB.out | apply below_alloc | apply pw_below_drewN | apply below_drew1) | exact HB.out))) (fun k_ h_ => h_)) (Kd.R_lt (by (with_reducible repeat (first | apply Kd.R_alloc | apply Kd.R_drewN | apply Kd.R_drew)); exact HO194.out))) (Kd.R_lt (by (with_reducible repeat (first | apply Kd.R_alloc | apply Kd.R_drewN | apply Kd.R_drew)); exact HO197.out))) (below_size (by repeat (first | (with_reducible first | exact HB.out | apply below_alloc | apply pw_below_drewN | apply below_drew1) | exact HB.out)))); have n6_ := Aside0.mk (Kd.R_lower (Kd.R_new' (Kd.R_new' (Kd.R_newM (M := fun k_ => (w.heap.size ≤ k_)) ho1 (below_size (by repeat (first | (with_reducible first | exact HB.out | apply below_alloc | apply pw_below_drewN | apply below_drew1) | exact HB.out))) (fun k_ h_ => h_)) (Kd.R_lt (by (with_reducible repeat (first | apply Kd.R_alloc | apply Kd.R_drewN | apply Kd.R_drew)); exact HO194.out))) (Kd.R_lt (by (with_reducible repeat (first | apply Kd.R_alloc | apply Kd.R_drewN | apply Kd.R_drew)); exact HO197.out))) (below_size (by repeat (first | (with_reducible first | exact HB.out | apply below_alloc | apply pw_below_drewN | apply below_drew1) | exact HB.out)))); have n7_ := Aside0.mk (below_step (by repeat (first | (with_reducible first | exact HB.out | apply below_alloc | apply pw_below_drewN | apply below_drew1) | exact HB.out)) hb); clear HO_2; clear HO_3; clear HO_39; clear HO194; clear HO197; clear HB; have HO_2 := n0_; have HO_3 := n1_; have HO_39 := n2_; have HO194 := n3_; have HO197 := n4_; have HO201 := n5_; have HO203 := n6_; have HB := n7_; clear n0_ n1_ n2_ n3_ n4_ n5_ n6_ n7_; (try clear hb); (try clear hb2); (try clear hk); (try clear hi); (try clear ho0); (try clear ho1); obtain ⟨Ao37, co37, eo37⟩ := Kd.R_slice HO201.out; subst eo37; obtain ⟨Ao38, co38, eo38⟩ := Kd.R_slice HO203.out; subst eo38) | ((with_reducible refine gate_callee (f := 30) rfl ?_); refine goesL_ (some 97) rfl rfl Tryd.func30 (by kernel_rfl) rfl #[.slice Ao37 t198.length co37, .slice Ao38 t199.length co38] rfl (by (try simp only [List.map_toArray, List.map_cons, List.map_nil]); first | done | rfl | (simp only [List.length_drop, List.length_take]; rfl)) ?_; (with_reducible refine (round_less.calls k1 _ _ t198 _ _ t199 t204 _ ?side1 ?side2 ?side3 ?side4 A28.out).mono ?_); (case side1 => repeat (first | exact (Kd.R_reads' HO201.out).2.2 | (with_reducible refine Kd.C_alloc ?_ _) | (with_reducible refine Kd.C_drewN ?_ _) | (with_reducible refine Kd.C_drew ?_))); (case side2 => exact (Kd.R_reads' HO201.out).2.1); (case side3 => repeat (first | exact (Kd.R_reads' HO203.out).2.2 | (with_reducible refine Kd.C_alloc ?_ _) | (with_reducible refine Kd.C_drewN ?_ _) | (with_reducible refine Kd.C_drew ?_))); (case side4 => exact (Kd.R_reads' HO203.out).2.1); rintro e w' ⟨rfl, ⟨nd, rfl⟩⟩; refine ⟨_, rfl, ?_⟩))
        (try simp only [Act.put, List.setIfInBounds_toArray, List.set_cons_zero, List.set_cons_succ])
        go_cut [22] (fun v22 wc => ∃ (kq : Nat) (x22_28 : Int) (x23_28 : List Int), v22 = .int .i64 x22_28 ∧ Aside0 (round_Ratio.j1 kq a0 a1 a4 t176 t177 x22_28 x23_28 t199 = some (r1, r2)) ∧ Aside0 (kq ≤ k1) ∧ Aside0 (Kd.R (Kd.int .u64) 27 wc w.heap.size (fun k_ => (w.heap.size ≤ k_) ∧ some k_ ≠ ((.slice Ao38 t199.length co38) : Value).ownBlock) (.slice Ao37 t198.length co37) x23_28) ∧ Aside0 (Kd.R (Kd.int .u64) 27 wc w.heap.size (fun k_ => (w.heap.size ≤ k_) ∧ some k_ ≠ ((.slice Ao37 t198.length co37) : Value).ownBlock) (.slice Ao38 t199.length co38) t199) ∧ Aside0 (Below w.heap.size w wc))
        case first =>
         have H := HC29.out
         clear HC29
         by_cases c39 : t204 = true
         ·subst c39
          have H1 : ((round_double.f k1 t198).bind fun t205 => (round_Ratio.j1 k1 a0 a1 a4 t176 t177 (wrap64 ((wrap64 (t188 - t190)) - 1)) t205 t199)) = some (r1, r2) := by rw [if_pos rfl] at H; exact H
          clear H
          have H := H1
          clear H1
          replace H := Option.bind_eq_some_iff.mp H
          obtain ⟨t205, A400, H⟩ := H
          replace H : (round_Ratio.j1 k1 a0 a1 a4 t176 t177 (wrap64 ((wrap64 (t188 - t190)) - 1)) t205 t199) = some (r1, r2) := H
          have A40 := Aside0.mk A400
          clear A400
          have H' := Aside0.mk H
          clear H
          go_wp2_with (first | ((with_reducible refine gate_callee (f := 31) rfl ?_); refine goesL_ (some 101) rfl rfl Tryd.func31 (by kernel_rfl) rfl #[.slice Ao37 t198.length co37] rfl (by (try simp only [List.map_toArray, List.map_cons, List.map_nil]); first | done | rfl | (simp only [List.length_drop, List.length_take]; rfl)) ?_; (with_reducible refine (round_double.calls k1 (fun k_ => some k_ = (.slice Ao37 t198.length co37 : Value).ownBlock) (.slice Ao37 t198.length co37) t198 t205 w _ ?side1 ?side2 A40.out).mono ?_); (case side1 => repeat (first | (with_reducible first | exact HB.out | apply below_alloc | apply pw_below_drewN | apply below_drew1) | exact HB.out)); (case side2 => exact Kd.R_tight rfl HO201.out); rintro e w41 ⟨rfl, hy0, hb, hkp⟩; refine ⟨_, rfl, ?_⟩; have n0_ := Aside0.mk (Kd.V_mono (ok' := fun k_ => ((P2_ k_ ∨ P3_ k_) ∨ w.heap.size ≤ k_) ∧ some k_ ≠ (.slice Ao10 y179.length co10 : Value).ownBlock ∧ some k_ ≠ (.slice Ao34 t192.length co34 : Value).ownBlock ∧ some k_ ≠ (.slice Ao35 t195.length co35 : Value).ownBlock ∧ some k_ ≠ (.slice Ao37 t198.length co37 : Value).ownBlock ∧ some k_ ≠ (.slice Ao38 t199.length co38 : Value).ownBlock) (Kd.V_keptB (HO_2.out) hkp (fun k_ hk_ hs_ => (hk_.1.2) hs_)) (fun k_ hk_ => ⟨hk_.1.1.1.1.1.1, hk_.1.1.1.1.1.2, hk_.1.1.1.1.2, hk_.1.1.1.2, hk_.1.1.2, hk_.1.2⟩)); have n1_ := Aside0.mk (Kd.V_mono (ok' := fun k_ => ((P2_ k_ ∨ P3_ k_) ∨ w.heap.size ≤ k_) ∧ some k_ ≠ (.slice Ao10 y179.length co10 : Value).ownBlock ∧ some k_ ≠ (.slice Ao34 t192.length co34 : Value).ownBlock ∧ some k_ ≠ (.slice Ao35 t195.length co35 : Value).ownBlock ∧ some k_ ≠ (.slice Ao37 t198.length co37 : Value).ownBlock ∧ some k_ ≠ (.slice Ao38 t199.length co38 : Value).ownBlock) (Kd.V_keptB (HO_3.out) hkp (fun k_ hk_ hs_ => (hk_.1.2) hs_)) (fun k_ hk_ => ⟨hk_.1.1.1.1.1.1, hk_.1.1.1.1.1.2, hk_.1.1.1.1.2, hk_.1.1.1.2, hk_.1.1.2, hk_.1.2⟩)); have n2_ := Aside0.mk (Kd.N_mono (ok' := fun k_ => ((P2_ k_ ∨ P3_ k_) ∨ w.heap.size ≤ k_) ∧ some k_ ≠ (.slice Ao34 t192.length co34 : Value).ownBlock ∧ some k_ ≠ (.slice Ao35 t195.length co35 : Value).ownBlock ∧ some k_ ≠ (.slice Ao37 t198.length co37 : Value).ownBlock ∧ some k_ ≠ (.slice Ao38 t199.length co38 : Value).ownBlock) (Kd.N_keptB (HO_39.out) hkp (fun k_ hk_ hs_ => (hk_.1.2) hs_)) (fun k_ hk_ => ⟨hk_.1.1.1.1.1, hk_.1.1.1.1.2, hk_.1.1.1.2, hk_.1.1.2, hk_.1.2⟩)); have n3_ := Aside0.mk (Kd.R_mono (ok' := fun k_ => (w.heap.size ≤ k_) ∧ some k_ ≠ (.slice Ao35 t195.length co35 : Value).ownBlock ∧ some k_ ≠ (.slice Ao37 t198.length co37 : Value).ownBlock ∧ some k_ ≠ (.slice Ao38 t199.length co38 : Value).ownBlock) (Kd.R_keptB (HO194.out) hkp (fun k_ hk_ hs_ => (hk_.1.2) hs_)) (fun k_ hk_ => ⟨hk_.1.1.1.1.1, hk_.1.1.1.2, hk_.1.1.2, hk_.1.2⟩)); have n4_ := Aside0.mk (Kd.R_mono (ok' := fun k_ => (w.heap.size ≤ k_) ∧ some k_ ≠ (.slice Ao34 t192.length co34 : Value).ownBlock ∧ some k_ ≠ (.slice Ao37 t198.length co37 : Value).ownBlock ∧ some k_ ≠ (.slice Ao38 t199.length co38 : Value).ownBlock) (Kd.R_keptB (HO197.out) hkp (fun k_ hk_ hs_ => (hk_.1.2) hs_)) (fun k_ hk_ => ⟨hk_.1.1.1.1.1, hk_.1.1.1.2, hk_.1.1.2, hk_.1.2⟩)); have n5_ := Aside0.mk (Kd.R_reok rfl hy0 (fun k_ e_ => HO201.out.1 k_ e_)); have n6_ := Aside0.mk (Kd.R_mono (ok' := fun k_ => (w.heap.size ≤ k_) ∧ some k_ ≠ (.slice Ao34 t192.length co34 : Value).ownBlock ∧ some k_ ≠ (.slice Ao35 t195.length co35 : Value).ownBlock ∧ some k_ ≠ (.slice Ao37 t198.length co37 : Value).ownBlock) (Kd.R_keptB (HO203.out) hkp (fun k_ hk_ hs_ => (hk_.1.1.2) hs_)) (fun k_ hk_ => ⟨hk_.1.1.1.1, hk_.1.1.2, hk_.1.2, hk_.1.1.1.2⟩)); have n7_ := Aside0.mk (hb); clear HO_2; clear HO_3; clear HO_39; clear HO194; clear HO197; clear HO201; clear HO203; clear HB; have HO_2 := n0_; have HO_3 := n1_; have HO_39 := n2_; have HO194 := n3_; have HO197 := n4_; have HO201 := n5_; have HO203 := n6_; have HB := n7_; clear n0_ n1_ n2_ n3_ n4_ n5_ n6_ n7_; (try clear hb); (try clear hkp); (try clear hy0)))
          go_meet
          case rel => exact ⟨_, (wrap64 ((wrap64 (t188 - t190)) - 1)), (t205), (by first | rfl | (simp; done) | (simp [*]; done)), H', ⟨by have := HK1.out; first | omega | exact Nat.le_refl _⟩, ⟨by (with_reducible repeat (first | apply Kd.R_alloc | apply Kd.R_drewN | apply Kd.R_drew)); exact Kd.R_mono HO201.out (fun _ hk => ⟨hk.1.1.1, hk.1.1.2⟩)⟩, ⟨by (with_reducible repeat (first | apply Kd.R_alloc | apply Kd.R_drewN | apply Kd.R_drew)); exact Kd.R_mono HO203.out (fun _ hk => ⟨hk.1, hk.2.2.2⟩)⟩, ⟨by repeat (first | (with_reducible first | exact HB.out | apply below_alloc | apply pw_below_drewN | apply below_drew1) | exact HB.out)⟩⟩
         ·replace c39 := Bool.eq_false_iff.mpr c39
          subst c39
          have H1 : (round_Ratio.j1 k1 a0 a1 a4 t176 t177 (wrap64 (t188 - t190)) t198 t199) = some (r1, r2) := by rw [if_neg (show ¬ (false = true) by decide)] at H; exact H
          clear H
          have H := H1
          clear H1
          have H' := Aside0.mk H
          clear H
          go_wp2
          go_meet
          case rel => exact ⟨_, (wrap64 (t188 - t190)), (t198), (by first | rfl | (simp; done) | (simp [*]; done)), H', ⟨by have := HK1.out; first | omega | exact Nat.le_refl _⟩, ⟨by (with_reducible repeat (first | apply Kd.R_alloc | apply Kd.R_drewN | apply Kd.R_drew)); exact Kd.R_mono HO201.out (fun _ hk => ⟨hk.1.1.1, hk.1.1.2⟩)⟩, ⟨by (with_reducible repeat (first | apply Kd.R_alloc | apply Kd.R_drewN | apply Kd.R_drew)); exact Kd.R_mono HO203.out (fun _ hk => ⟨hk.1.1.1, hk.1.1.2⟩)⟩, ⟨by repeat (first | (with_reducible first | exact HB.out | apply below_alloc | apply pw_below_drewN | apply below_drew1) | exact HB.out)⟩⟩
        case rest =>
         clear HC29
         try clear c1
         try clear p1
         try clear q1
         try clear hx1
         try clear c2
         try clear p2
         try clear c3
         try clear p6
         try clear c7
         try clear c8
         try clear c11
         try clear c11b0
         try clear c12
         try clear c12b0
         try clear c13
         try clear c13b0
         try clear c15
         try clear c15b0
         try clear c15b1
         try clear c15b2
         try clear c17
         try clear c18
         try clear c18b0
         try clear c18b1
         try clear c18b2
         try clear p18
         try clear q18
         try clear hx18
         try clear c23
         try clear c24
         try clear c25
         try clear c26
         try clear c27
         try clear c28
         try clear c29
         try clear c30
         try clear c31
         try clear c39
         try clear hx182_0
         try clear p182
         try clear p2
         try clear q182
         try clear q184
         obtain ⟨kq, x22_28, x23_28, rfl, HA, HJ28, HO_23, HO_24, HB⟩ := hcut
         have hl23_28 := (Kd.R_reads' HO_23.out).1
         rw [hl23_28] at HO_23
         (try simp only [hl23_28])
         (try simp only [hl23_28] at HO_24)
         cases kq with
         | zero => exact absurd HA.out (by simp [round_Ratio.j1])
         | succ kj28 =>
          have H := HA.out
          clear HA
          simp only [round_Ratio.j1] at H
          obtain ⟨ji42, hji42⟩ : ∃ j_ : Int, (mx (wrap64 ((wrap64 (x22_28 + a4)) - t176)) (wrap64 (t177 - 1))) = j_ := ⟨_, rfl⟩
          replace H : (if (wrap64 (x22_28 + a4)) > 2000 then (round_Ratio.j2 kj28 a0 a1 (wrap64 (x22_28 + a4)) x23_28 t199 (wrap64 ((wrap64 (x22_28 + a4)) - t176))) else (round_Ratio.j2 kj28 a0 a1 (wrap64 (x22_28 + a4)) x23_28 t199 ji42)) = some (r1, r2) := by first | (rw [hji42] at H; exact H) | (simp only [hji42] at H ⊢; exact H)
          have hji42_ : (if (wrap64 ((wrap64 (x22_28 + a4)) - t176)) < (wrap64 (t177 - 1)) then (wrap64 (t177 - 1)) else (wrap64 ((wrap64 (x22_28 + a4)) - t176))) = ji42 := hji42
          have HC43 := Aside0.mk H
          clear H
          go_upto_if 112 with (fail)
          go_cut [25] (fun v25 wc => ∃ (kq : Nat) (x25_42 : Int), v25 = .int .i64 x25_42 ∧ Aside0 (round_Ratio.j2 kq a0 a1 (wrap64 (x22_28 + a4)) x23_28 t199 x25_42 = some (r1, r2)) ∧ Aside0 (kq ≤ kj28) ∧ Aside0 (Kd.R (Kd.int .u64) 27 wc w.heap.size (fun k_ => (w.heap.size ≤ k_) ∧ some k_ ≠ ((.slice Ao38 t199.length co38) : Value).ownBlock) (.slice Ao37 x23_28.length co37) x23_28) ∧ Aside0 (Kd.R (Kd.int .u64) 27 wc w.heap.size (fun k_ => (w.heap.size ≤ k_) ∧ some k_ ≠ ((.slice Ao37 x23_28.length co37) : Value).ownBlock) (.slice Ao38 t199.length co38) t199) ∧ Aside0 (Below w.heap.size w wc))
          case first =>
           have H := HC43.out
           clear HC43
           by_cases c44 : (wrap64 (x22_28 + a4)) > 2000
           ·rw [if_pos c44] at H
            have c44b0 : decide (2000 < (wrap64 (x22_28 + a4))) = true := decide_eq_true c44
            clear c44
            (first | rw [c44b0] | (simp only [i64_w, i32_w]; rw [c44b0]) | skip)
            have H' := Aside0.mk H
            clear H
            go_wp2
            go_meet
            case rel => exact ⟨_, (wrap64 ((wrap64 (x22_28 + a4)) - t176)), (by first | rfl | (simp; done) | (simp [*]; done)), H', ⟨by have := HK1.out; have := HJ28.out; first | omega | exact Nat.le_refl _⟩, ⟨by (try simp only [hl23_28]); (with_reducible repeat (first | apply Kd.R_alloc | apply Kd.R_drewN | apply Kd.R_drew)); exact HO_23.out⟩, ⟨by (try simp only [hl23_28]); (with_reducible repeat (first | apply Kd.R_alloc | apply Kd.R_drewN | apply Kd.R_drew)); exact HO_24.out⟩, ⟨by repeat (first | (with_reducible first | exact HB.out | apply below_alloc | apply pw_below_drewN | apply below_drew1) | exact HB.out)⟩⟩
           ·rw [if_neg c44] at H
            have c44b0 : decide (2000 < (wrap64 (x22_28 + a4))) = false := decide_eq_false c44
            clear c44
            (first | rw [c44b0] | (simp only [i64_w, i32_w]; rw [c44b0]) | skip)
            have H' := Aside0.mk H
            clear H
            go_wp2
            go_meet
            case rel => exact ⟨_, (ji42), (by first | rfl | (simp; done) | (simp only [← hji42] <;> (first | rfl | simp)) | (simp [*]; done)), H', ⟨by have := HK1.out; have := HJ28.out; first | omega | exact Nat.le_refl _⟩, ⟨by (try simp only [hl23_28]); (with_reducible repeat (first | apply Kd.R_alloc | apply Kd.R_drewN | apply Kd.R_drew)); exact HO_23.out⟩, ⟨by (try simp only [hl23_28]); (with_reducible repeat (first | apply Kd.R_alloc | apply Kd.R_drewN | apply Kd.R_drew)); exact HO_24.out⟩, ⟨by repeat (first | (with_reducible first | exact HB.out | apply below_alloc | apply pw_below_drewN | apply below_drew1) | exact HB.out)⟩⟩
          case rest =>
           clear HC43
           try clear c1
           try clear p1
           try clear q1
           try clear hx1
           try clear c2
           try clear p2
           try clear c3
           try clear c4
           try clear p6
           try clear c7
           try clear c8
           try clear c11
           try clear c11b0
           try clear c12
           try clear c12b0
           try clear c13
           try clear c13b0
           try clear c15
           try clear c15b0
           try clear c15b1
           try clear c15b2
           try clear c17
           try clear c18
           try clear c18b0
           try clear c18b1
           try clear c18b2
           try clear p18
           try clear q18
           try clear hx18
           try clear c23
           try clear c24
           try clear c25
           try clear c26
           try clear c27
           try clear c28
           try clear c29
           try clear c30
           try clear c31
           try clear c39
           try clear c44
           try clear c44b0
           try clear hx182_0
           try clear p1
           try clear p18
           try clear p182
           try clear p2
           try clear p6
           try clear q1
           try clear q18
           try clear q182
           try clear q184
           obtain ⟨kq, x25_42, rfl, HA, HJ42, HO_23, HO_24, HB⟩ := hcut
           cases kq with
           | zero => exact absurd HA.out (by simp [round_Ratio.j2])
           | succ kj42 =>
            have H := HA.out
            clear HA
            simp only [round_Ratio.j2] at H
            have H' := Aside0.mk H
            clear H
            go_wp2
            go_loopg [26, 27] kj42 (fun kq v26 v27 w' => ∃ (x23_4 : List Int) (x26_4 : Int) (x27_4 : Int), v26 = .int .u64 x26_4 ∧ v27 = .int .i64 x27_4 ∧ Aside0 (round_Ratio.l1 kq a0 a1 (wrap64 (x22_28 + a4)) x23_4 t199 x25_42 x26_4 x27_4 = some (r1, r2)) ∧ Aside0 (kq ≤ kj42) ∧ Aside0 (Kd.R (Kd.int .u64) 27 w' w.heap.size (fun k_ => (w.heap.size ≤ k_) ∧ some k_ ≠ ((.slice Ao38 t199.length co38) : Value).ownBlock) (.slice Ao37 x23_28.length co37) x23_4) ∧ Aside0 (Kd.R (Kd.int .u64) 27 w' w.heap.size (fun k_ => (w.heap.size ≤ k_) ∧ some k_ ≠ ((.slice Ao37 x23_28.length co37) : Value).ownBlock) (.slice Ao38 t199.length co38) t199) ∧ Aside0 (Below w.heap.size w w'))
            case atStart => exact ⟨(x23_28), (0), ((wrap64 (x22_28 + a4))), (by first | rfl | (simp; done) | (simp [*]; done)), (by first | rfl | (simp; done) | (simp [*]; done)), H', ⟨Nat.le_refl _⟩, ⟨by (try simp only [hl23_28]); (with_reducible repeat (first | apply Kd.R_alloc | apply Kd.R_drewN | apply Kd.R_drew)); exact HO_23.out⟩, ⟨by (try simp only [hl23_28]); (with_reducible repeat (first | apply Kd.R_alloc | apply Kd.R_drewN | apply Kd.R_drew)); exact HO_24.out⟩, ⟨by repeat (first | (with_reducible first | exact HB.out | apply below_alloc | apply pw_below_drewN | apply below_drew1) | exact HB.out)⟩⟩
            case round =>
             clear H'
             try clear c1
             try clear p1
             try clear q1
             try clear hx1
             try clear c2
             try clear p2
             try clear c3
             try clear c4
             try clear p6
             try clear c7
             try clear c8
             try clear c11
             try clear c11b0
             try clear c12
             try clear c12b0
             try clear c13
             try clear c13b0
             try clear c15
             try clear c15b0
             try clear c15b1
             try clear c15b2
             try clear c17
             try clear c18
             try clear c18b0
             try clear c18b1
             try clear c18b2
             try clear p18
             try clear q18
             try clear hx18
             try clear c23
             try clear c24
             try clear c25
             try clear c26
             try clear c27
             try clear c28
             try clear c29
             try clear c30
             try clear c31
             try clear c39
             try clear c44
             try clear c44b0
             try clear hx182_0
             try clear p1
             try clear p18
             try clear p182
             try clear p2
             try clear p6
             try clear q1
             try clear q18
             try clear q182
             try clear q184
             obtain ⟨x23_4, x26_4, x27_4, rfl, rfl, HA, HK4, HO_23, HO_24, HB⟩ := hrel
             have hl23_4 := (Kd.R_reads' HO_23.out).1
             rw [hl23_4] at HO_23
             (try simp only [hl23_4])
             (try simp only [hl23_4] at HO_24)
             cases gk with
             | zero => exact absurd HA.out (by simp [round_Ratio.l1])
             | succ k4 =>
              have H := HA.out
              clear HA
              simp only [round_Ratio.l1] at H
              by_cases c45 : x27_4 ≥ x25_42
              ·rw [if_pos c45] at H
               have c45b0 : decide (x25_42 ≤ x27_4) = true := decide_eq_true c45
               clear c45
               replace H := Option.bind_eq_some_iff.mp H
               obtain ⟨t211, A460, H⟩ := H
               replace H : (if t211 = true then ((round_double.f k4 x23_4).bind fun t212 => (round_Ratio.l1 k4 a0 a1 (wrap64 (x22_28 + a4)) t212 t199 x25_42 (IntKind.u64.wrap (x26_4 * 2)) (wrap64 (x27_4 - 1)))) else ((round_off.f k4 x23_4 t199).bind fun t213 => ((round_double.f k4 t213).bind fun t214 => (round_Ratio.l1 k4 a0 a1 (wrap64 (x22_28 + a4)) t214 t199 x25_42 (Go.bits .or .u64 (IntKind.u64.wrap (x26_4 * 2)) 1) (wrap64 (x27_4 - 1)))))) = some (r1, r2) := H
               have A46 := Aside0.mk A460
               clear A460
               by_cases c47 : t211 = true
               ·subst c47
                have H1 : ((round_double.f k4 x23_4).bind fun t212 => (round_Ratio.l1 k4 a0 a1 (wrap64 (x22_28 + a4)) t212 t199 x25_42 (IntKind.u64.wrap (x26_4 * 2)) (wrap64 (x27_4 - 1)))) = some (r1, r2) := by rw [if_pos rfl] at H; exact H
                clear H
                have H := H1
                clear H1
                replace H := Option.bind_eq_some_iff.mp H
                obtain ⟨t212, A480, H⟩ := H
                replace H : (round_Ratio.l1 k4 a0 a1 (wrap64 (x22_28 + a4)) t212 t199 x25_42 (IntKind.u64.wrap (x26_4 * 2)) (wrap64 (x27_4 - 1))) = some (r1, r2) := H
                have A48 := Aside0.mk A480
                clear A480
                have H' := Aside0.mk H
                clear H
                go_wp2_with (first | ((with_reducible refine gate_callee (f := 30) rfl ?_); refine goesL_ (some 126) rfl rfl Tryd.func30 (by kernel_rfl) rfl #[.slice Ao37 x23_4.length co37, .slice Ao38 t199.length co38] rfl (by (try simp only [List.map_toArray, List.map_cons, List.map_nil]); first | done | rfl | (simp only [List.length_drop, List.length_take]; rfl)) ?_; (with_reducible refine (round_less.calls k4 _ _ x23_4 _ _ t199 true _ ?side1 ?side2 ?side3 ?side4 A46.out).mono ?_); (case side1 => repeat (first | exact (Kd.R_reads' HO_23.out).2.2 | (with_reducible refine Kd.C_alloc ?_ _) | (with_reducible refine Kd.C_drewN ?_ _) | (with_reducible refine Kd.C_drew ?_))); (case side2 => exact (Kd.R_reads' HO_23.out).2.1); (case side3 => repeat (first | exact (Kd.R_reads' HO_24.out).2.2 | (with_reducible refine Kd.C_alloc ?_ _) | (with_reducible refine Kd.C_drewN ?_ _) | (with_reducible refine Kd.C_drew ?_))); (case side4 => exact (Kd.R_reads' HO_24.out).2.1); rintro e w' ⟨rfl, ⟨nd, rfl⟩⟩; refine ⟨_, rfl, ?_⟩) | ((with_reducible refine gate_callee (f := 31) rfl ?_); refine goesL_ (some 134) rfl rfl Tryd.func31 (by kernel_rfl) rfl #[.slice Ao37 x23_4.length co37] rfl (by (try simp only [List.map_toArray, List.map_cons, List.map_nil]); first | done | rfl | (simp only [List.length_drop, List.length_take]; rfl)) ?_; (with_reducible refine (round_double.calls k4 (fun k_ => some k_ = (.slice Ao37 x23_4.length co37 : Value).ownBlock) (.slice Ao37 x23_4.length co37) x23_4 t212 w _ ?side1 ?side2 A48.out).mono ?_); (case side1 => repeat (first | (with_reducible first | exact HB.out | apply below_alloc | apply pw_below_drewN | apply below_drew1) | exact HB.out)); (case side2 => exact Kd.R_tight rfl HO_23.out); rintro e w49 ⟨rfl, hy0, hb, hkp⟩; refine ⟨_, rfl, ?_⟩; have n0_ := Aside0.mk (Kd.R_reok rfl hy0 (fun k_ e_ => HO_23.out.1 k_ e_)); have n1_ := Aside0.mk (Kd.R_mono (ok' := fun k_ => (w.heap.size ≤ k_) ∧ some k_ ≠ (.slice Ao37 x23_4.length co37 : Value).ownBlock) (Kd.R_keptB (HO_24.out) hkp (fun k_ hk_ hs_ => (hk_.2) hs_)) (fun k_ hk_ => ⟨hk_.1.1, hk_.1.2⟩)); have n2_ := Aside0.mk (hb); clear HO_23; clear HO_24; clear HB; have HO_23 := n0_; have HO_24 := n1_; have HB := n2_; clear n0_ n1_ n2_; (try clear hb); (try clear hkp); (try clear hy0)))
                (try simp only [← hl23_4])
                go_roundg k4
                case measure => have := HK1.out; have := HJ28.out; have := HJ42.out; have := HK4.out; omega
                case rel => exact ⟨(t212), (IntKind.u64.wrap (x26_4 * 2)), (wrap64 (x27_4 - 1)), (by first | rfl | (simp; done) | (simp [*]; done)), (by first | rfl | (simp; done) | (simp [*]; done)), H', ⟨by have := HK1.out; have := HJ28.out; have := HJ42.out; have := HK4.out; omega⟩, ⟨by (try simp only [hl23_28]); (try simp only [hl23_4]); (with_reducible repeat (first | apply Kd.R_alloc | apply Kd.R_drewN | apply Kd.R_drew)); exact HO_23.out⟩, ⟨by (try simp only [hl23_28]); (try simp only [hl23_4]); (with_reducible repeat (first | apply Kd.R_alloc | apply Kd.R_drewN | apply Kd.R_drew)); exact HO_24.out⟩, ⟨by repeat (first | (with_reducible first | exact HB.out | apply below_alloc | apply pw_below_drewN | apply below_drew1) | exact HB.out)⟩⟩
               ·replace c47 := Bool.eq_false_iff.mpr c47
                subst c47
                have H1 : ((round_off.f k4 x23_4 t199).bind fun t213 => ((round_double.f k4 t213).bind fun t214 => (round_Ratio.l1 k4 a0 a1 (wrap64 (x22_28 + a4)) t214 t199 x25_42 (Go.bits .or .u64 (IntKind.u64.wrap (x26_4 * 2)) 1) (wrap64 (x27_4 - 1))))) = some (r1, r2) := by rw [if_neg (show ¬ (false = true) by decide)] at H; exact H
                clear H
                have H := H1
                clear H1
                replace H := Option.bind_eq_some_iff.mp H
                obtain ⟨t213, A500, H⟩ := H
                replace H : ((round_double.f k4 t213).bind fun t214 => (round_Ratio.l1 k4 a0 a1 (wrap64 (x22_28 + a4)) t214 t199 x25_42 (Go.bits .or .u64 (IntKind.u64.wrap (x26_4 * 2)) 1) (wrap64 (x27_4 - 1)))) = some (r1, r2) := H
                have A50 := Aside0.mk A500
                clear A500
                obtain ⟨ji51, hji51⟩ : ∃ j_ : Int, (Go.bits .or .u64 (IntKind.u64.wrap (x26_4 * 2)) 1) = j_ := ⟨_, rfl⟩
                replace H : ((round_double.f k4 t213).bind fun t214 => (round_Ratio.l1 k4 a0 a1 (wrap64 (x22_28 + a4)) t214 t199 x25_42 ji51 (wrap64 (x27_4 - 1)))) = some (r1, r2) := by first | (rw [hji51] at H; exact H) | (simp only [hji51] at H ⊢; exact H)
                (try rw [hji51] at A46)
                (try rw [hji51] at A50)
                replace H := Option.bind_eq_some_iff.mp H
                obtain ⟨t214, A520, H⟩ := H
                replace H : (round_Ratio.l1 k4 a0 a1 (wrap64 (x22_28 + a4)) t214 t199 x25_42 ji51 (wrap64 (x27_4 - 1))) = some (r1, r2) := H
                have A52 := Aside0.mk A520
                clear A520
                have H' := Aside0.mk H
                clear H
                go_wp2_with (first | ((with_reducible refine gate_callee (f := 30) rfl ?_); refine goesL_ (some 126) rfl rfl Tryd.func30 (by kernel_rfl) rfl #[.slice Ao37 x23_4.length co37, .slice Ao38 t199.length co38] rfl (by (try simp only [List.map_toArray, List.map_cons, List.map_nil]); first | done | rfl | (simp only [List.length_drop, List.length_take]; rfl)) ?_; (with_reducible refine (round_less.calls k4 _ _ x23_4 _ _ t199 false _ ?side1 ?side2 ?side3 ?side4 A46.out).mono ?_); (case side1 => repeat (first | exact (Kd.R_reads' HO_23.out).2.2 | (with_reducible refine Kd.C_alloc ?_ _) | (with_reducible refine Kd.C_drewN ?_ _) | (with_reducible refine Kd.C_drew ?_))); (case side2 => exact (Kd.R_reads' HO_23.out).2.1); (case side3 => repeat (first | exact (Kd.R_reads' HO_24.out).2.2 | (with_reducible refine Kd.C_alloc ?_ _) | (with_reducible refine Kd.C_drewN ?_ _) | (with_reducible refine Kd.C_drew ?_))); (case side4 => exact (Kd.R_reads' HO_24.out).2.1); rintro e w' ⟨rfl, ⟨nd, rfl⟩⟩; refine ⟨_, rfl, ?_⟩) | ((with_reducible refine gate_callee (f := 32) rfl ?_); refine goesL_ (some 130) rfl rfl Tryd.func32 (by kernel_rfl) rfl #[.slice Ao37 x23_4.length co37, .slice Ao38 t199.length co38] rfl (by (try simp only [List.map_toArray, List.map_cons, List.map_nil]); first | done | rfl | (simp only [List.length_drop, List.length_take]; rfl)) ?_; (with_reducible refine (round_off.calls k4 (fun k_ => some k_ = (.slice Ao37 x23_4.length co37 : Value).ownBlock) (.slice Ao37 x23_4.length co37) x23_4 _ _ t199 t213 w _ ?side1 ?side2 ?side3 ?side4 A50.out).mono ?_); (case side1 => repeat (first | (with_reducible first | exact HB.out | apply below_alloc | apply pw_below_drewN | apply below_drew1) | exact HB.out)); (case side2 => exact Kd.R_tight rfl HO_23.out); (case side3 => exact Kd.C_kept_own (HO_24.out) (fun k_ hk_ hs_ => (hk_.2) hs_)); (case side4 => exact (Kd.R_reads' HO_24.out).2.1); rintro e w53 ⟨rfl, hy0, hb, hkp⟩; refine ⟨_, rfl, ?_⟩; have n0_ := Aside0.mk (Kd.R_reok rfl hy0 (fun k_ e_ => HO_23.out.1 k_ e_)); have n1_ := Aside0.mk (Kd.R_mono (ok' := fun k_ => (w.heap.size ≤ k_) ∧ some k_ ≠ (.slice Ao37 x23_4.length co37 : Value).ownBlock) (Kd.R_keptB (HO_24.out) hkp (fun k_ hk_ hs_ => (hk_.2) hs_)) (fun k_ hk_ => ⟨hk_.1.1, hk_.1.2⟩)); have n2_ := Aside0.mk (hb); clear HO_23; clear HO_24; clear HB; have HO_23 := n0_; have HO_24 := n1_; have HB := n2_; clear n0_ n1_ n2_; (try clear hb); (try clear hkp); (try clear hy0)) | ((with_reducible refine gate_callee (f := 31) rfl ?_); refine goesL_ (some 134) rfl rfl Tryd.func31 (by kernel_rfl) rfl #[.slice Ao37 x23_4.length co37] rfl (by (try simp only [List.map_toArray, List.map_cons, List.map_nil]); first | done | rfl | (simp only [List.length_drop, List.length_take]; rfl)) ?_; (with_reducible refine (round_double.calls k4 (fun k_ => some k_ = (.slice Ao37 x23_4.length co37 : Value).ownBlock) (.slice Ao37 x23_4.length co37) t213 t214 w _ ?side1 ?side2 A52.out).mono ?_); (case side1 => repeat (first | (with_reducible first | exact HB.out | apply below_alloc | apply pw_below_drewN | apply below_drew1) | exact HB.out)); (case side2 => exact Kd.R_tight rfl HO_23.out); rintro e w54 ⟨rfl, hy0, hb, hkp⟩; refine ⟨_, rfl, ?_⟩; have n0_ := Aside0.mk (Kd.R_reok rfl hy0 (fun k_ e_ => HO_23.out.1 k_ e_)); have n1_ := Aside0.mk (Kd.R_mono (ok' := fun k_ => (w.heap.size ≤ k_) ∧ some k_ ≠ (.slice Ao37 x23_4.length co37 : Value).ownBlock) (Kd.R_keptB (HO_24.out) hkp (fun k_ hk_ hs_ => (hk_.2) hs_)) (fun k_ hk_ => ⟨hk_.1.1, hk_.1.2⟩)); have n2_ := Aside0.mk (hb); clear HO_23; clear HO_24; clear HB; have HO_23 := n0_; have HO_24 := n1_; have HB := n2_; clear n0_ n1_ n2_; (try clear hb); (try clear hkp); (try clear hy0)))
                (try simp only [← hl23_4])
                go_roundg k4
                case measure => have := HK1.out; have := HJ28.out; have := HJ42.out; have := HK4.out; omega
                case rel => exact ⟨(t214), (ji51), (wrap64 (x27_4 - 1)), (by first | rfl | (simp; done) | (simp only [← hji51] <;> (first | rfl | simp)) | (simp [*]; done)), (by first | rfl | (simp; done) | (simp [*]; done)), H', ⟨by have := HK1.out; have := HJ28.out; have := HJ42.out; have := HK4.out; omega⟩, ⟨by (try simp only [hl23_28]); (try simp only [hl23_4]); (with_reducible repeat (first | apply Kd.R_alloc | apply Kd.R_drewN | apply Kd.R_drew)); exact HO_23.out⟩, ⟨by (try simp only [hl23_28]); (try simp only [hl23_4]); (with_reducible repeat (first | apply Kd.R_alloc | apply Kd.R_drewN | apply Kd.R_drew)); exact HO_24.out⟩, ⟨by repeat (first | (with_reducible first | exact HB.out | apply below_alloc | apply pw_below_drewN | apply below_drew1) | exact HB.out)⟩⟩
              ·rw [if_neg c45] at H
               have c45b0 : decide (x25_42 ≤ x27_4) = false := decide_eq_false c45
               clear c45
               obtain ⟨ji55, hji55⟩ : ∃ j_ : Int, (Go.bits .and .u64 x26_4 1) = j_ := ⟨_, rfl⟩
               replace H : (if (wrap64 (x22_28 + a4)) < x25_42 then ((round_pack.f k4 a0 a1 (x26_4 / 2) (wrap64 (x25_42 + 1)) ((ji55) == 1) true).bind fun bt206 => (some (bt206.1, bt206.2))) else ((round_zero.f k4 x23_4).bind fun t208 => ((round_pack.f k4 a0 a1 (x26_4 / 2) (wrap64 (x25_42 + 1)) ((ji55) == 1) (!t208)).bind fun bt209 => (some (bt209.1, bt209.2))))) = some (r1, r2) := by first | (rw [hji55] at H; exact H) | (simp only [hji55] at H ⊢; exact H)
               by_cases c56 : (wrap64 (x22_28 + a4)) < x25_42
               ·rw [if_pos c56] at H
                have c56b0 : decide ((wrap64 (x22_28 + a4)) < x25_42) = true := decide_eq_true c56
                clear c56
                replace H := Option.bind_eq_some_iff.mp H
                obtain ⟨⟨t206, t207⟩, A570, H⟩ := H
                replace H : (some (t206, t207)) = some (r1, r2) := H
                have A57 := Aside0.mk A570
                clear A570
                simp only [Option.some.injEq, Prod.mk.injEq] at H
                obtain ⟨rfl, rfl⟩ := H
                go_wp2_with (first | ((with_reducible refine gate_callee (f := 33) rfl ?_); refine goesL_ (some 152) rfl rfl Tryd.func33 (by kernel_rfl) rfl #[.int .i64 a0, .bool a1, .int .u64 (x26_4 / 2), .int .i64 (wrap64 (x25_42 + 1)), .bool ((ji55) == 1), .bool true] rfl (by (try simp only [List.map_toArray, List.map_cons, List.map_nil]); first | done | (simp only [hji55]; rfl) | rfl | (simp only [List.length_drop, List.length_take]; rfl)) ?_; (with_reducible refine (round_pack.calls k4 a0 a1 (x26_4 / 2) (wrap64 (x25_42 + 1)) ((ji55) == 1) true t206 t207 _ ?side1 A57.out).mono ?_); (case side1 => exact Laid_DB64.of_below HL_DB64.out (by repeat (first | (with_reducible first | exact HB.out | apply below_alloc | apply pw_below_drewN | apply below_drew1) | exact HB.out))); rintro e w58 ⟨rfl, hb⟩; refine ⟨_, rfl, ?_⟩; have n0_ := Aside0.mk (Kd.R_below (by (with_reducible repeat (first | apply Kd.R_alloc | apply Kd.R_drewN | apply Kd.R_drew)); exact HO_23.out) hb); have n1_ := Aside0.mk (Kd.R_below (by (with_reducible repeat (first | apply Kd.R_alloc | apply Kd.R_drewN | apply Kd.R_drew)); exact HO_24.out) hb); have n2_ := Aside0.mk (below_step (by repeat (first | (with_reducible first | exact HB.out | apply below_alloc | apply pw_below_drewN | apply below_drew1) | exact HB.out)) hb); clear HO_23; clear HO_24; clear HB; have HO_23 := n0_; have HO_24 := n1_; have HB := n2_; clear n0_ n1_ n2_; (try clear hb); (try clear hb2); (try clear hk); (try clear hi); (try simp only [errW_none, errW_some])))
                go_ret2
                exact ⟨by first | rfl | (simp [errW_none, errW_some] <;> rfl) | (simp only [← hji23, ← hji25, ← hji42, ← hji55]; first | rfl | (simp [errW_none, errW_some] <;> rfl)) | (simp [*, errW_none, errW_some] <;> rfl), by repeat (first | (with_reducible first | exact HB.out | apply below_alloc | apply pw_below_drewN | apply below_drew1) | exact HB.out)⟩
               ·rw [if_neg c56] at H
                have c56b0 : decide ((wrap64 (x22_28 + a4)) < x25_42) = false := decide_eq_false c56
                clear c56
                replace H := Option.bind_eq_some_iff.mp H
                obtain ⟨t208, A590, H⟩ := H
                replace H : ((round_pack.f k4 a0 a1 (x26_4 / 2) (wrap64 (x25_42 + 1)) ((ji55) == 1) (!t208)).bind fun bt209 => (some (bt209.1, bt209.2))) = some (r1, r2) := H
                have A59 := Aside0.mk A590
                clear A590
                replace H := Option.bind_eq_some_iff.mp H
                obtain ⟨⟨t209, t210⟩, A600, H⟩ := H
                replace H : (some (t209, t210)) = some (r1, r2) := H
                have A60 := Aside0.mk A600
                clear A600
                simp only [Option.some.injEq, Prod.mk.injEq] at H
                obtain ⟨rfl, rfl⟩ := H
                go_wp2_with (first | (go_at_call 34; (with_reducible refine (round_zero.calls k4 _ _ x23_4 t208 _ ?side1 ?side2 A59.out).mono ?_); (case side1 => repeat (first | exact (Kd.R_reads' HO_23.out).2.2 | (with_reducible refine Kd.C_alloc ?_ _) | (with_reducible refine Kd.C_drewN ?_ _) | (with_reducible refine Kd.C_drew ?_))); (case side2 => exact (Kd.R_reads' HO_23.out).2.1); rintro e w' ⟨rfl, ⟨nd, rfl⟩⟩) | ((with_reducible refine gate_callee (f := 33) rfl ?_); refine goesL_ (some 152) rfl rfl Tryd.func33 (by kernel_rfl) rfl #[.int .i64 a0, .bool a1, .int .u64 (x26_4 / 2), .int .i64 (wrap64 (x25_42 + 1)), .bool ((ji55) == 1), .bool (!t208)] rfl (by (try simp only [List.map_toArray, List.map_cons, List.map_nil]); first | done | (simp only [hji55]; rfl) | rfl | (simp only [List.length_drop, List.length_take]; rfl)) ?_; (with_reducible refine (round_pack.calls k4 a0 a1 (x26_4 / 2) (wrap64 (x25_42 + 1)) ((ji55) == 1) (!t208) t209 t210 _ ?side1 A60.out).mono ?_); (case side1 => exact Laid_DB64.of_below HL_DB64.out (by repeat (first | (with_reducible first | exact HB.out | apply below_alloc | apply pw_below_drewN | apply below_drew1) | exact HB.out))); rintro e w61 ⟨rfl, hb⟩; refine ⟨_, rfl, ?_⟩; have n0_ := Aside0.mk (Kd.R_below (by (with_reducible repeat (first | apply Kd.R_alloc | apply Kd.R_drewN | apply Kd.R_drew)); exact HO_23.out) hb); have n1_ := Aside0.mk (Kd.R_below (by (with_reducible repeat (first | apply Kd.R_alloc | apply Kd.R_drewN | apply Kd.R_drew)); exact HO_24.out) hb); have n2_ := Aside0.mk (below_step (by repeat (first | (with_reducible first | exact HB.out | apply below_alloc | apply pw_below_drewN | apply below_drew1) | exact HB.out)) hb); clear HO_23; clear HO_24; clear HB; have HO_23 := n0_; have HO_24 := n1_; have HB := n2_; clear n0_ n1_ n2_; (try clear hb); (try clear hb2); (try clear hk); (try clear hi); (try simp only [errW_none, errW_some])))
                go_ret2
                exact ⟨by first | rfl | (simp [errW_none, errW_some] <;> rfl) | (simp only [← hji23, ← hji25, ← hji42, ← hji55]; first | rfl | (simp [errW_none, errW_some] <;> rfl)) | (simp [*, errW_none, errW_some] <;> rfl), by repeat (first | (with_reducible first | exact HB.out | apply below_alloc | apply pw_below_drewN | apply below_drew1) | exact HB.out)⟩
 ·replace c7 := Bool.eq_false_iff.mpr c7
  subst c7
  have H1 : (some (0, some 5)) = some (r1, r2) := by rw [if_neg (show ¬ (false = true) by decide)] at H; exact H
  clear H
  have H := H1
  clear H1
  simp only [Option.some.injEq, Prod.mk.injEq] at H
  obtain ⟨rfl, rfl⟩ := H
  go_enter Tryd.func8, Tryd.ntmps8
  go_wp2_with (first | ((with_reducible refine gate_callee (f := 23) rfl ?_); refine goesL_ (some 30) rfl rfl Tryd.func23 (by kernel_rfl) rfl #[.int .i64 a0] rfl (by (try simp only [List.map_toArray, List.map_cons, List.map_nil]); first | done | rfl | (simp only [List.length_drop, List.length_take]; rfl)) ?_; (with_reducible refine (round_format.calls a0 t176 t177 false _ A6.out).mono ?_); rintro e w' ⟨rfl, ⟨nd, rfl⟩⟩; refine ⟨_, rfl, ?_⟩))
  go_ret2
  exact ⟨by first | rfl | (simp [errW_none, errW_some] <;> rfl) | (simp [*, errW_none, errW_some] <;> rfl), by repeat (first | (with_reducible first | exact HB.out | apply below_alloc | apply pw_below_drewN | apply below_drew1) | exact HB.out)⟩

/-! ### numerallaw12_num: function 10 -/
def numerallaw12_num.f (a0 : Option Int) : Option (Int) := if a0.isNone = true then (some 0) else (some (a0.getD 0))
set_option maxHeartbeats 8000000 in
set_option maxRecDepth 100000 in
theorem numerallaw12_num.calls (a0 : Option Int) (r : Int) (w : World) (h : numerallaw12_num.f a0 = some r) :
  Calls Tryd.prog 10 #[errW a0] w fun e w' => e = .returned (.int .i64 r) ∧ Drawn0 w w' := by
 have hu29 := Tryd.underlying29
 have hu55 := Tryd.underlying55
 have hta : ∀ (v : Value) (W : World), (Instr.typeAssert (.iface 55 v) 29 55 true).run Tryd.prog W = .ok (.tuple #[v, .bool true]) W := fun v W => by rfl
 have H : (if a0.isNone = true then (some 0) else (some (a0.getD 0))) = some r := h
 clear h
 rcases a0 with _ | q215
 ·have H1 : (some 0) = some r := by rw [if_pos (show (none : Option Int).isNone = true by rfl)] at H; exact H
  clear H
  have H := H1
  clear H1
  simp only [errW_none, errW_some]
  obtain rfl := Option.some.inj H
  go_enter Tryd.func10, Tryd.ntmps10
  go_wp2
  go_ret
  exact ⟨by first | rfl | (simp; done) | (simp [*]; done), by repeat (first | exact Drawn0.refl _ | apply Drawn0.step)⟩
 ·have H1 : (some q215) = some r := by rw [if_neg (show ¬ (some q215).isNone = true by simp)] at H; exact H
  clear H
  have H := H1
  clear H1
  simp only [errW_none, errW_some]
  obtain rfl := Option.some.inj H
  go_enter Tryd.func10, Tryd.ntmps10
  go_wp2
  go_ret
  exact ⟨by first | rfl | (simp; done) | (simp [*]; done), by repeat (first | exact Drawn0.refl _ | apply Drawn0.step)⟩

end Go.Proofs.YtbjmfocjigikgaaDoor.Xi
