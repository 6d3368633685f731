-- PRINTED by print.py (a twelfth state) out of the translation. Not trusted: Lean checks it.
import Derived.Test.YtemjpmgfbnlkjaaXax0
import Derived.Test.YtemjpmgfbnlkjaaXax1
import Derived.Test.YtemjpmgfbnlkjaaXax4
import Derived.Test.YtemjpmgfbnlkjaaXax5
import Derived.Test.YtemjpmgfbnlkjaaXax6
import Derived.Test.YtemjpmgfbnlkjaaXax7
import Derived.Test.YtemjpmgfbnlkjaaXax8
namespace Go.Proofs.Ytemjpmgfbnlkjaa.Xa
open Go.RowKit Go.Proofs.YtemjpmgfbnlkjaaW.PrintWords Go.Proofs.YtemjpmgfbnlkjaaW.PrintLast Go.Proofs.YtemjpmgfbnlkjaaW.PrintMore
attribute [local go_sem] max2_int min2_int max_two min_two max_three min_three max_four min_four   -- for this text's walks alone
set_option linter.unusedVariables false
set_option linter.unusedSimpArgs false

/-! ### numerallaw02_NatSums: function 7 -/
mutual
def numerallaw02_NatSums.j0 : Nat → List Int → List Int → List Int → List Int → List Int → Option Int → List Int → Int → List Int → Option Int → List Int → Int → Int → Option Int → Int → Int → Int → Bool → Int → Bool → Option (Bool)
  | 0, _, _, _, _, _, _, _, _, _, _, _, _, _, _, _, _, _, _, _, _ => none
  | k + 1, x0, x1, x5, x6, x7, x8, x9, x10, x11, x12, x13, x14, x15, x16, x17, x18, x19, x20, x21, x22 => if x22 = true then (numerallaw02_NatSums.j1 k x0 x1 x5 x6 x7 x8 x9 x10 x11 x12 x13 x14 x15 x16 x17 x18 x19 x20 x21 x22 ((x0.length : Int) == 1)) else (numerallaw02_NatSums.j1 k x0 x1 x5 x6 x7 x8 x9 x10 x11 x12 x13 x14 x15 x16 x17 x18 x19 x20 x21 x22 false)
def numerallaw02_NatSums.j1 : Nat → List Int → List Int → List Int → List Int → List Int → Option Int → List Int → Int → List Int → Option Int → List Int → Int → Int → Option Int → Int → Int → Int → Bool → Int → Bool → Bool → Option (Bool)
  | 0, _, _, _, _, _, _, _, _, _, _, _, _, _, _, _, _, _, _, _, _, _ => none
  | k + 1, x0, x1, x5, x6, x7, x8, x9, x10, x11, x12, x13, x14, x15, x16, x17, x18, x19, x20, x21, x22, x81 => if x81 = true then (if 0 < (x0.length : Int) then (numerallaw02_NatSums.j2 k x0 x1 x5 x6 x7 x8 x9 x10 x11 x12 x13 x14 x15 x16 x17 x18 x19 x20 (rd x0 0) x22) else (none)) else (numerallaw02_NatSums.j2 k x0 x1 x5 x6 x7 x8 x9 x10 x11 x12 x13 x14 x15 x16 x17 x18 x19 x20 x21 x22)
def numerallaw02_NatSums.j2 : Nat → List Int → List Int → List Int → List Int → List Int → Option Int → List Int → Int → List Int → Option Int → List Int → Int → Int → Option Int → Int → Int → Int → Bool → Int → Bool → Option (Bool)
  | 0, _, _, _, _, _, _, _, _, _, _, _, _, _, _, _, _, _, _, _, _ => none
  | k + 1, x0, x1, x5, x6, x7, x8, x9, x10, x11, x12, x13, x14, x15, x16, x17, x18, x19, x20, x21, x22 => (numerallaw02_same.f k x7 x9).bind fun t482 => (if t482 = true then ((numerallaw02_num.f x8).bind fun t483 => (if t483 = x10 then ((numerallaw02_same.f k x11 x13).bind fun t484 => (if t484 = true then ((numerallaw02_num.f x12).bind fun t485 => (if t485 = x14 then (if x15 = x17 then ((numerallaw02_num.f x16).bind fun t486 => (if t486 = x18 then ((nat_Valid.f x5).bind fun t487 => ((numerallaw02_num.f t487).bind fun t488 => ((numeralref02_Valid.f x0).bind fun t489 => (if t488 = t489 then (if x19 = x21 then (if (x20 == x22) = true then ((numerallaw02_same.f k x5 x0).bind fun t490 => (if t490 = true then ((numerallaw02_same.f k x6 x1).bind fun t491 => (if t491 = true then ((numerallaw02_works.f k).bind fun t492 => (some t492)) else (none))) else (none))) else (none)) else (none)) else (none))))) else (none))) else (none)) else (none))) else (none))) else (none))) else (none))
end
def numerallaw02_NatSums.f (k : Nat) (l0 : List Int) (l1 : List Int) : Option (Bool) := (numerallaw02_twin.f l0).bind fun t452 => ((numerallaw02_twin.f l1).bind fun t455 => ((nat_Add.f k t452 t455).bind fun bt458 => ((numeralref02_Add.f k l0 l1).bind fun bt462 => ((nat_Sub.f k t452 t455).bind fun bt466 => ((numeralref02_Sub.f k l0 l1).bind fun bt470 => ((nat_Cmp.f k t452 t455).bind fun bt474 => ((numeralref02_Cmp.f k l0 l1).bind fun bt476 => ((nat_Word.f k t452).bind fun bt478 => ((numeralref02_Valid.f l0).bind fun t480 => (if t480 = 0 then (numerallaw02_NatSums.j0 k l0 l1 t452 t455 bt458.1 bt458.2 bt462.1 bt462.2 bt466.1 bt466.2 bt470.1 bt470.2 bt474.1 bt474.2 bt476.1 bt476.2 bt478.1 bt478.2 0 (decide ((l0.length : Int) ≤ 1))) else (numerallaw02_NatSums.j0 k l0 l1 t452 t455 bt458.1 bt458.2 bt462.1 bt462.2 bt466.1 bt466.2 bt470.1 bt470.2 bt474.1 bt474.2 bt476.1 bt476.2 bt478.1 bt478.2 0 false)))))))))))
theorem numerallaw02_NatSums.mono_l : ∀ k, (∀ y0 y1 y2 y3 y4 y5 y6 y7 y8 y9 y10 y11 y12 y13 y14 y15 y16 y17 y18 y19, LeO (numerallaw02_NatSums.j0 k y0 y1 y2 y3 y4 y5 y6 y7 y8 y9 y10 y11 y12 y13 y14 y15 y16 y17 y18 y19) (numerallaw02_NatSums.j0 (k + 1) y0 y1 y2 y3 y4 y5 y6 y7 y8 y9 y10 y11 y12 y13 y14 y15 y16 y17 y18 y19)) ∧ (∀ y0 y1 y2 y3 y4 y5 y6 y7 y8 y9 y10 y11 y12 y13 y14 y15 y16 y17 y18 y19 y20, LeO (numerallaw02_NatSums.j1 k y0 y1 y2 y3 y4 y5 y6 y7 y8 y9 y10 y11 y12 y13 y14 y15 y16 y17 y18 y19 y20) (numerallaw02_NatSums.j1 (k + 1) y0 y1 y2 y3 y4 y5 y6 y7 y8 y9 y10 y11 y12 y13 y14 y15 y16 y17 y18 y19 y20)) ∧ (∀ y0 y1 y2 y3 y4 y5 y6 y7 y8 y9 y10 y11 y12 y13 y14 y15 y16 y17 y18 y19, LeO (numerallaw02_NatSums.j2 k y0 y1 y2 y3 y4 y5 y6 y7 y8 y9 y10 y11 y12 y13 y14 y15 y16 y17 y18 y19) (numerallaw02_NatSums.j2 (k + 1) y0 y1 y2 y3 y4 y5 y6 y7 y8 y9 y10 y11 y12 y13 y14 y15 y16 y17 y18 y19))
  | 0 => ⟨fun _ _ _ _ _ _ _ _ _ _ _ _ _ _ _ _ _ _ _ _ r h => by simp [numerallaw02_NatSums.j0] at h, fun _ _ _ _ _ _ _ _ _ _ _ _ _ _ _ _ _ _ _ _ _ r h => by simp [numerallaw02_NatSums.j1] at h, fun _ _ _ _ _ _ _ _ _ _ _ _ _ _ _ _ _ _ _ _ r h => by simp [numerallaw02_NatSums.j2] at h⟩
  | k + 1 => by
    obtain ⟨ih0, ih1, ih2⟩ := numerallaw02_NatSums.mono_l k
    refine ⟨?_, ?_, ?_⟩
    · intro y0 y1 y2 y3 y4 y5 y6 y7 y8 y9 y10 y11 y12 y13 y14 y15 y16 y17 y18 y19
      unfold numerallaw02_NatSums.j0
      repeat' first
      | (with_reducible exact ih0 _ _ _ _ _ _ _ _ _ _ _ _ _ _ _ _ _ _ _ _)
      | (with_reducible exact ih1 _ _ _ _ _ _ _ _ _ _ _ _ _ _ _ _ _ _ _ _ _)
      | (with_reducible exact ih2 _ _ _ _ _ _ _ _ _ _ _ _ _ _ _ _ _ _ _ _)
      | (with_reducible exact nat_Add.mono _ _ _)
      | (with_reducible exact nat_Cmp.mono _ _ _)
      | (with_reducible exact nat_Sub.mono _ _ _)
      | (with_reducible exact nat_Word.mono _ _)
      | (with_reducible exact numerallaw02_same.mono _ _ _)
      | (with_reducible exact numerallaw02_works.mono _)
      | (with_reducible exact numeralref02_Add.mono _ _ _)
      | (with_reducible exact numeralref02_Cmp.mono _ _ _)
      | (with_reducible exact numeralref02_Sub.mono _ _ _)
      | (with_reducible exact LeO.refl _)
      | (with_reducible exact LeO.none _)
      | (with_reducible refine LeO.ite ?_ ?_)
      | (with_reducible refine LeO.bind ?_ (fun _ => ?_))
      | exact ih0 _ _ _ _ _ _ _ _ _ _ _ _ _ _ _ _ _ _ _ _
      | exact ih1 _ _ _ _ _ _ _ _ _ _ _ _ _ _ _ _ _ _ _ _ _
      | exact ih2 _ _ _ _ _ _ _ _ _ _ _ _ _ _ _ _ _ _ _ _
      | exact nat_Add.mono _ _ _
      | exact nat_Cmp.mono _ _ _
      | exact nat_Sub.mono _ _ _
      | exact nat_Word.mono _ _
      | exact numerallaw02_same.mono _ _ _
      | exact numerallaw02_works.mono _
      | exact numeralref02_Add.mono _ _ _
      | exact numeralref02_Cmp.mono _ _ _
      | exact numeralref02_Sub.mono _ _ _
      | exact LeO.none _
      | refine LeO.ite ?_ ?_
      | refine LeO.bind ?_ (fun _ => ?_)
    · intro y0 y1 y2 y3 y4 y5 y6 y7 y8 y9 y10 y11 y12 y13 y14 y15 y16 y17 y18 y19 y20
      unfold numerallaw02_NatSums.j1
      repeat' first
      | (with_reducible exact ih0 _ _ _ _ _ _ _ _ _ _ _ _ _ _ _ _ _ _ _ _)
      | (with_reducible exact ih1 _ _ _ _ _ _ _ _ _ _ _ _ _ _ _ _ _ _ _ _ _)
      | (with_reducible exact ih2 _ _ _ _ _ _ _ _ _ _ _ _ _ _ _ _ _ _ _ _)
      | (with_reducible exact nat_Add.mono _ _ _)
      | (with_reducible exact nat_Cmp.mono _ _ _)
      | (with_reducible exact nat_Sub.mono _ _ _)
      | (with_reducible exact nat_Word.mono _ _)
      | (with_reducible exact numerallaw02_same.mono _ _ _)
      | (with_reducible exact numerallaw02_works.mono _)
      | (with_reducible exact numeralref02_Add.mono _ _ _)
      | (with_reducible exact numeralref02_Cmp.mono _ _ _)
      | (with_reducible exact numeralref02_Sub.mono _ _ _)
      | (with_reducible exact LeO.refl _)
      | (with_reducible exact LeO.none _)
      | (with_reducible refine LeO.ite ?_ ?_)
      | (with_reducible refine LeO.bind ?_ (fun _ => ?_))
      | exact ih0 _ _ _ _ _ _ _ _ _ _ _ _ _ _ _ _ _ _ _ _
      | exact ih1 _ _ _ _ _ _ _ _ _ _ _ _ _ _ _ _ _ _ _ _ _
      | exact ih2 _ _ _ _ _ _ _ _ _ _ _ _ _ _ _ _ _ _ _ _
      | exact nat_Add.mono _ _ _
      | exact nat_Cmp.mono _ _ _
      | exact nat_Sub.mono _ _ _
      | exact nat_Word.mono _ _
      | exact numerallaw02_same.mono _ _ _
      | exact numerallaw02_works.mono _
      | exact numeralref02_Add.mono _ _ _
      | exact numeralref02_Cmp.mono _ _ _
      | exact numeralref02_Sub.mono _ _ _
      | exact LeO.none _
      | refine LeO.ite ?_ ?_
      | refine LeO.bind ?_ (fun _ => ?_)
    · intro y0 y1 y2 y3 y4 y5 y6 y7 y8 y9 y10 y11 y12 y13 y14 y15 y16 y17 y18 y19
      unfold numerallaw02_NatSums.j2
      repeat' first
      | (with_reducible exact ih0 _ _ _ _ _ _ _ _ _ _ _ _ _ _ _ _ _ _ _ _)
      | (with_reducible exact ih1 _ _ _ _ _ _ _ _ _ _ _ _ _ _ _ _ _ _ _ _ _)
      | (with_reducible exact ih2 _ _ _ _ _ _ _ _ _ _ _ _ _ _ _ _ _ _ _ _)
      | (with_reducible exact nat_Add.mono _ _ _)
      | (with_reducible exact nat_Cmp.mono _ _ _)
      | (with_reducible exact nat_Sub.mono _ _ _)
      | (with_reducible exact nat_Word.mono _ _)
      | (with_reducible exact numerallaw02_same.mono _ _ _)
      | (with_reducible exact numerallaw02_works.mono _)
      | (with_reducible exact numeralref02_Add.mono _ _ _)
      | (with_reducible exact numeralref02_Cmp.mono _ _ _)
      | (with_reducible exact numeralref02_Sub.mono _ _ _)
      | (with_reducible exact LeO.refl _)
      | (with_reducible exact LeO.none _)
      | (with_reducible refine LeO.ite ?_ ?_)
      | (with_reducible refine LeO.bind ?_ (fun _ => ?_))
      | exact ih0 _ _ _ _ _ _ _ _ _ _ _ _ _ _ _ _ _ _ _ _
      | exact ih1 _ _ _ _ _ _ _ _ _ _ _ _ _ _ _ _ _ _ _ _ _
      | exact ih2 _ _ _ _ _ _ _ _ _ _ _ _ _ _ _ _ _ _ _ _
      | exact nat_Add.mono _ _ _
      | exact nat_Cmp.mono _ _ _
      | exact nat_Sub.mono _ _ _
      | exact nat_Word.mono _ _
      | exact numerallaw02_same.mono _ _ _
      | exact numerallaw02_works.mono _
      | exact numeralref02_Add.mono _ _ _
      | exact numeralref02_Cmp.mono _ _ _
      | exact numeralref02_Sub.mono _ _ _
      | exact LeO.none _
      | refine LeO.ite ?_ ?_
      | refine LeO.bind ?_ (fun _ => ?_)
theorem numerallaw02_NatSums.mono : ∀ a0 a1 k, LeO (numerallaw02_NatSums.f k a0 a1) (numerallaw02_NatSums.f (k + 1) a0 a1) := by
  intro a0 a1 k
  obtain ⟨ih0, ih1, ih2⟩ := numerallaw02_NatSums.mono_l k
  unfold numerallaw02_NatSums.f
  repeat' first
      | (with_reducible exact ih0 _ _ _ _ _ _ _ _ _ _ _ _ _ _ _ _ _ _ _ _)
      | (with_reducible exact ih1 _ _ _ _ _ _ _ _ _ _ _ _ _ _ _ _ _ _ _ _ _)
      | (with_reducible exact ih2 _ _ _ _ _ _ _ _ _ _ _ _ _ _ _ _ _ _ _ _)
      | (with_reducible exact nat_Add.mono _ _ _)
      | (with_reducible exact nat_Cmp.mono _ _ _)
      | (with_reducible exact nat_Sub.mono _ _ _)
      | (with_reducible exact nat_Word.mono _ _)
      | (with_reducible exact numerallaw02_same.mono _ _ _)
      | (with_reducible exact numerallaw02_works.mono _)
      | (with_reducible exact numeralref02_Add.mono _ _ _)
      | (with_reducible exact numeralref02_Cmp.mono _ _ _)
      | (with_reducible exact numeralref02_Sub.mono _ _ _)
      | (with_reducible exact LeO.refl _)
      | (with_reducible exact LeO.none _)
      | (with_reducible refine LeO.ite ?_ ?_)
      | (with_reducible refine LeO.bind ?_ (fun _ => ?_))
      | exact ih0 _ _ _ _ _ _ _ _ _ _ _ _ _ _ _ _ _ _ _ _
      | exact ih1 _ _ _ _ _ _ _ _ _ _ _ _ _ _ _ _ _ _ _ _ _
      | exact ih2 _ _ _ _ _ _ _ _ _ _ _ _ _ _ _ _ _ _ _ _
      | exact nat_Add.mono _ _ _
      | exact nat_Cmp.mono _ _ _
      | exact nat_Sub.mono _ _ _
      | exact nat_Word.mono _ _
      | exact numerallaw02_same.mono _ _ _
      | exact numerallaw02_works.mono _
      | exact numeralref02_Add.mono _ _ _
      | exact numeralref02_Cmp.mono _ _ _
      | exact numeralref02_Sub.mono _ _ _
      | exact LeO.none _
      | refine LeO.ite ?_ ?_
      | refine LeO.bind ?_ (fun _ => ?_)
set_option maxHeartbeats 8000000 in
set_option maxRecDepth 100000 in
theorem numerallaw02_NatSums.calls (k : Nat) (A0 : Option Addr) (c0 : Nat) (l0 : List Int) (A1 : Option Addr) (c1 : Nat) (l1 : List Int) (r : Bool) (w : World) (hr0 : Kd.C (Kd.int .u64) w A0 l0.length l0) (hc0 : l0.length ≤ c0) (hr1 : Kd.C (Kd.int .u64) w A1 l1.length l1) (hc1 : l1.length ≤ c1) (h : numerallaw02_NatSums.f k l0 l1 = some r) :
    Calls Try.prog 7 #[.slice A0 l0.length c0, .slice A1 l1.length c1] w fun e w' => e = .returned (.bool r) ∧ Below w.heap.size w w' := by
  have HR0 := Aside0.mk hr0
  have HC0 := Aside0.mk hc0
  clear hr0 hc0
  have HR1 := Aside0.mk hr1
  have HC1 := Aside0.mk hc1
  clear hr1 hc1
  have HB := Aside0.mk (Below.refl w.heap.size w)
  have H : ((numerallaw02_twin.f l0).bind fun t452 => ((numerallaw02_twin.f l1).bind fun t455 => ((nat_Add.f k t452 t455).bind fun bt458 => ((numeralref02_Add.f k l0 l1).bind fun bt462 => ((nat_Sub.f k t452 t455).bind fun bt466 => ((numeralref02_Sub.f k l0 l1).bind fun bt470 => ((nat_Cmp.f k t452 t455).bind fun bt474 => ((numeralref02_Cmp.f k l0 l1).bind fun bt476 => ((nat_Word.f k t452).bind fun bt478 => ((numeralref02_Valid.f l0).bind fun t480 => (if t480 = 0 then (numerallaw02_NatSums.j0 k l0 l1 t452 t455 bt458.1 bt458.2 bt462.1 bt462.2 bt466.1 bt466.2 bt470.1 bt470.2 bt474.1 bt474.2 bt476.1 bt476.2 bt478.1 bt478.2 0 (decide ((l0.length : Int) ≤ 1))) else (numerallaw02_NatSums.j0 k l0 l1 t452 t455 bt458.1 bt458.2 bt462.1 bt462.2 bt466.1 bt466.2 bt470.1 bt470.2 bt474.1 bt474.2 bt476.1 bt476.2 bt478.1 bt478.2 0 false)))))))))))) = some r := h
  clear h
  replace H := Option.bind_eq_some_iff.mp H
  obtain ⟨t452, A30, H⟩ := H
  replace H : ((numerallaw02_twin.f l1).bind fun t455 => ((nat_Add.f k t452 t455).bind fun bt458 => ((numeralref02_Add.f k l0 l1).bind fun bt462 => ((nat_Sub.f k t452 t455).bind fun bt466 => ((numeralref02_Sub.f k l0 l1).bind fun bt470 => ((nat_Cmp.f k t452 t455).bind fun bt474 => ((numeralref02_Cmp.f k l0 l1).bind fun bt476 => ((nat_Word.f k t452).bind fun bt478 => ((numeralref02_Valid.f l0).bind fun t480 => (if t480 = 0 then (numerallaw02_NatSums.j0 k l0 l1 t452 t455 bt458.1 bt458.2 bt462.1 bt462.2 bt466.1 bt466.2 bt470.1 bt470.2 bt474.1 bt474.2 bt476.1 bt476.2 bt478.1 bt478.2 0 (decide ((l0.length : Int) ≤ 1))) else (numerallaw02_NatSums.j0 k l0 l1 t452 t455 bt458.1 bt458.2 bt462.1 bt462.2 bt466.1 bt466.2 bt470.1 bt470.2 bt474.1 bt474.2 bt476.1 bt476.2 bt478.1 bt478.2 0 false))))))))))) = some r := H
  have A3 := Aside0.mk A30
  clear A30
  replace H := Option.bind_eq_some_iff.mp H
  obtain ⟨t455, A40, H⟩ := H
  replace H : ((nat_Add.f k t452 t455).bind fun bt458 => ((numeralref02_Add.f k l0 l1).bind fun bt462 => ((nat_Sub.f k t452 t455).bind fun bt466 => ((numeralref02_Sub.f k l0 l1).bind fun bt470 => ((nat_Cmp.f k t452 t455).bind fun bt474 => ((numeralref02_Cmp.f k l0 l1).bind fun bt476 => ((nat_Word.f k t452).bind fun bt478 => ((numeralref02_Valid.f l0).bind fun t480 => (if t480 = 0 then (numerallaw02_NatSums.j0 k l0 l1 t452 t455 bt458.1 bt458.2 bt462.1 bt462.2 bt466.1 bt466.2 bt470.1 bt470.2 bt474.1 bt474.2 bt476.1 bt476.2 bt478.1 bt478.2 0 (decide ((l0.length : Int) ≤ 1))) else (numerallaw02_NatSums.j0 k l0 l1 t452 t455 bt458.1 bt458.2 bt462.1 bt462.2 bt466.1 bt466.2 bt470.1 bt470.2 bt474.1 bt474.2 bt476.1 bt476.2 bt478.1 bt478.2 0 false)))))))))) = some r := H
  have A4 := Aside0.mk A40
  clear A40
  replace H := Option.bind_eq_some_iff.mp H
  obtain ⟨⟨t458, t459⟩, A50, H⟩ := H
  replace H : ((numeralref02_Add.f k l0 l1).bind fun bt462 => ((nat_Sub.f k t452 t455).bind fun bt466 => ((numeralref02_Sub.f k l0 l1).bind fun bt470 => ((nat_Cmp.f k t452 t455).bind fun bt474 => ((numeralref02_Cmp.f k l0 l1).bind fun bt476 => ((nat_Word.f k t452).bind fun bt478 => ((numeralref02_Valid.f l0).bind fun t480 => (if t480 = 0 then (numerallaw02_NatSums.j0 k l0 l1 t452 t455 t458 t459 bt462.1 bt462.2 bt466.1 bt466.2 bt470.1 bt470.2 bt474.1 bt474.2 bt476.1 bt476.2 bt478.1 bt478.2 0 (decide ((l0.length : Int) ≤ 1))) else (numerallaw02_NatSums.j0 k l0 l1 t452 t455 t458 t459 bt462.1 bt462.2 bt466.1 bt466.2 bt470.1 bt470.2 bt474.1 bt474.2 bt476.1 bt476.2 bt478.1 bt478.2 0 false))))))))) = some r := H
  have A5 := Aside0.mk A50
  clear A50
  replace H := Option.bind_eq_some_iff.mp H
  obtain ⟨⟨t462, t463⟩, A60, H⟩ := H
  replace H : ((nat_Sub.f k t452 t455).bind fun bt466 => ((numeralref02_Sub.f k l0 l1).bind fun bt470 => ((nat_Cmp.f k t452 t455).bind fun bt474 => ((numeralref02_Cmp.f k l0 l1).bind fun bt476 => ((nat_Word.f k t452).bind fun bt478 => ((numeralref02_Valid.f l0).bind fun t480 => (if t480 = 0 then (numerallaw02_NatSums.j0 k l0 l1 t452 t455 t458 t459 t462 t463 bt466.1 bt466.2 bt470.1 bt470.2 bt474.1 bt474.2 bt476.1 bt476.2 bt478.1 bt478.2 0 (decide ((l0.length : Int) ≤ 1))) else (numerallaw02_NatSums.j0 k l0 l1 t452 t455 t458 t459 t462 t463 bt466.1 bt466.2 bt470.1 bt470.2 bt474.1 bt474.2 bt476.1 bt476.2 bt478.1 bt478.2 0 false)))))))) = some r := H
  have A6 := Aside0.mk A60
  clear A60
  replace H := Option.bind_eq_some_iff.mp H
  obtain ⟨⟨t466, t467⟩, A70, H⟩ := H
  replace H : ((numeralref02_Sub.f k l0 l1).bind fun bt470 => ((nat_Cmp.f k t452 t455).bind fun bt474 => ((numeralref02_Cmp.f k l0 l1).bind fun bt476 => ((nat_Word.f k t452).bind fun bt478 => ((numeralref02_Valid.f l0).bind fun t480 => (if t480 = 0 then (numerallaw02_NatSums.j0 k l0 l1 t452 t455 t458 t459 t462 t463 t466 t467 bt470.1 bt470.2 bt474.1 bt474.2 bt476.1 bt476.2 bt478.1 bt478.2 0 (decide ((l0.length : Int) ≤ 1))) else (numerallaw02_NatSums.j0 k l0 l1 t452 t455 t458 t459 t462 t463 t466 t467 bt470.1 bt470.2 bt474.1 bt474.2 bt476.1 bt476.2 bt478.1 bt478.2 0 false))))))) = some r := H
  have A7 := Aside0.mk A70
  clear A70
  replace H := Option.bind_eq_some_iff.mp H
  obtain ⟨⟨t470, t471⟩, A80, H⟩ := H
  replace H : ((nat_Cmp.f k t452 t455).bind fun bt474 => ((numeralref02_Cmp.f k l0 l1).bind fun bt476 => ((nat_Word.f k t452).bind fun bt478 => ((numeralref02_Valid.f l0).bind fun t480 => (if t480 = 0 then (numerallaw02_NatSums.j0 k l0 l1 t452 t455 t458 t459 t462 t463 t466 t467 t470 t471 bt474.1 bt474.2 bt476.1 bt476.2 bt478.1 bt478.2 0 (decide ((l0.length : Int) ≤ 1))) else (numerallaw02_NatSums.j0 k l0 l1 t452 t455 t458 t459 t462 t463 t466 t467 t470 t471 bt474.1 bt474.2 bt476.1 bt476.2 bt478.1 bt478.2 0 false)))))) = some r := H
  have A8 := Aside0.mk A80
  clear A80
  replace H := Option.bind_eq_some_iff.mp H
  obtain ⟨⟨t474, t475⟩, A90, H⟩ := H
  replace H : ((numeralref02_Cmp.f k l0 l1).bind fun bt476 => ((nat_Word.f k t452).bind fun bt478 => ((numeralref02_Valid.f l0).bind fun t480 => (if t480 = 0 then (numerallaw02_NatSums.j0 k l0 l1 t452 t455 t458 t459 t462 t463 t466 t467 t470 t471 t474 t475 bt476.1 bt476.2 bt478.1 bt478.2 0 (decide ((l0.length : Int) ≤ 1))) else (numerallaw02_NatSums.j0 k l0 l1 t452 t455 t458 t459 t462 t463 t466 t467 t470 t471 t474 t475 bt476.1 bt476.2 bt478.1 bt478.2 0 false))))) = some r := H
  have A9 := Aside0.mk A90
  clear A90
  replace H := Option.bind_eq_some_iff.mp H
  obtain ⟨⟨t476, t477⟩, A100, H⟩ := H
  replace H : ((nat_Word.f k t452).bind fun bt478 => ((numeralref02_Valid.f l0).bind fun t480 => (if t480 = 0 then (numerallaw02_NatSums.j0 k l0 l1 t452 t455 t458 t459 t462 t463 t466 t467 t470 t471 t474 t475 t476 t477 bt478.1 bt478.2 0 (decide ((l0.length : Int) ≤ 1))) else (numerallaw02_NatSums.j0 k l0 l1 t452 t455 t458 t459 t462 t463 t466 t467 t470 t471 t474 t475 t476 t477 bt478.1 bt478.2 0 false)))) = some r := H
  have A10 := Aside0.mk A100
  clear A100
  replace H := Option.bind_eq_some_iff.mp H
  obtain ⟨⟨t478, t479⟩, A110, H⟩ := H
  replace H : ((numeralref02_Valid.f l0).bind fun t480 => (if t480 = 0 then (numerallaw02_NatSums.j0 k l0 l1 t452 t455 t458 t459 t462 t463 t466 t467 t470 t471 t474 t475 t476 t477 t478 t479 0 (decide ((l0.length : Int) ≤ 1))) else (numerallaw02_NatSums.j0 k l0 l1 t452 t455 t458 t459 t462 t463 t466 t467 t470 t471 t474 t475 t476 t477 t478 t479 0 false))) = some r := H
  have A11 := Aside0.mk A110
  clear A110
  have HC12 := Aside0.mk H
  clear H
  go_enter Try.func7, Try.ntmps7
  go_upto_region 9 with (first | ((with_reducible refine gate_callee (f := 9) rfl ?_); refine goesL_ (some 24) rfl rfl Try.func9 (by kernel_rfl) rfl #[.slice A0 l0.length c0] rfl (by (try simp only [List.map_toArray, List.map_cons, List.map_nil]); first | done | rfl | (simp only [List.length_drop, List.length_take]; rfl)) ?_; (with_reducible refine (numerallaw02_twin.calls _ _ l0 t452 _ ?side1 ?side2 A3.out).mono ?_); (case side1 => repeat (first | exact HR0.out | (with_reducible refine Kd.C_alloc ?_ _) | (with_reducible refine Kd.C_drewN ?_ _) | (with_reducible refine Kd.C_drew ?_))); (case side2 => exact HC0.out); rintro e w13 ⟨v453, rfl, ho0, hb⟩; refine ⟨_, rfl, ?_⟩; have n0_ := Aside0.mk (Kd.R_lower ho0 (below_size (by repeat (first | (with_reducible first | exact HB.out | apply below_alloc | apply pw_below_drewN | apply below_drew1) | exact HB.out)))); have n1_ := Aside0.mk (below_step (by repeat (first | (with_reducible first | exact HB.out | apply below_alloc | apply pw_below_drewN | apply below_drew1) | exact HB.out)) hb); clear HB; have HO454 := n0_; have HB := n1_; clear n0_ n1_; (try clear hb); (try clear hb2); (try clear hk); (try clear hi); (try clear ho0)) | ((with_reducible refine gate_callee (f := 9) rfl ?_); refine goesL_ (some 26) rfl rfl Try.func9 (by kernel_rfl) rfl #[.slice A1 l1.length c1] rfl (by (try simp only [List.map_toArray, List.map_cons, List.map_nil]); first | done | rfl | (simp only [List.length_drop, List.length_take]; rfl)) ?_; (with_reducible refine (numerallaw02_twin.calls _ _ l1 t455 _ ?side1 ?side2 A4.out).mono ?_); (case side1 => repeat (first | exact (Kd.C_below HR1.out HB.out) | (with_reducible refine Kd.C_alloc ?_ _) | (with_reducible refine Kd.C_drewN ?_ _) | (with_reducible refine Kd.C_drew ?_))); (case side2 => exact HC1.out); rintro e w14 ⟨v456, rfl, ho0, hb⟩; refine ⟨_, rfl, ?_⟩; have n0_ := Aside0.mk (Kd.R_elder' (by (with_reducible repeat (first | apply Kd.R_alloc | apply Kd.R_drewN | apply Kd.R_drew)); exact HO454.out) (Kd.R_base ho0) hb); have n1_ := Aside0.mk (Kd.R_lower (Kd.R_new' ho0 (Kd.R_lt (by (with_reducible repeat (first | apply Kd.R_alloc | apply Kd.R_drewN | apply Kd.R_drew)); exact HO454.out))) (below_size (by repeat (first | (with_reducible first | exact HB.out | apply below_alloc | apply pw_below_drewN | apply below_drew1) | exact HB.out)))); have n2_ := Aside0.mk (below_step (by repeat (first | (with_reducible first | exact HB.out | apply below_alloc | apply pw_below_drewN | apply below_drew1) | exact HB.out)) hb); clear HO454; clear HB; have HO454 := n0_; have HO457 := n1_; have HB := n2_; clear n0_ n1_ n2_; (try clear hb); (try clear hb2); (try clear hk); (try clear hi); (try clear ho0); obtain ⟨Ao15, co15, eo15⟩ := Kd.R_slice HO454.out; subst eo15; obtain ⟨Ao16, co16, eo16⟩ := Kd.R_slice HO457.out; subst eo16) | ((with_reducible refine gate_callee (f := 23) rfl ?_); refine goesL_ (some 30) rfl rfl Try.func23 (by kernel_rfl) rfl #[.slice Ao15 t452.length co15, .slice Ao16 t455.length co16] rfl (by (try simp only [List.map_toArray, List.map_cons, List.map_nil]); first | done | rfl | (simp only [List.length_drop, List.length_take]; rfl)) ?_; (with_reducible refine (nat_Add.calls k _ _ t452 _ _ t455 t458 t459 _ ?side1 ?side2 ?side3 ?side4 A5.out).mono ?_); (case side1 => repeat (first | exact (Kd.R_reads' HO454.out).2.2 | (with_reducible refine Kd.C_alloc ?_ _) | (with_reducible refine Kd.C_drewN ?_ _) | (with_reducible refine Kd.C_drew ?_))); (case side2 => exact (Kd.R_reads' HO454.out).2.1); (case side3 => repeat (first | exact (Kd.R_reads' HO457.out).2.2 | (with_reducible refine Kd.C_alloc ?_ _) | (with_reducible refine Kd.C_drewN ?_ _) | (with_reducible refine Kd.C_drew ?_))); (case side4 => exact (Kd.R_reads' HO457.out).2.1); rintro e w17 ⟨v460, rfl, ho0, hb⟩; refine ⟨_, rfl, ?_⟩; have n0_ := Aside0.mk (Kd.R_elder' (by (with_reducible repeat (first | apply Kd.R_alloc | apply Kd.R_drewN | apply Kd.R_drew)); exact HO454.out) (Kd.Q_base ho0) hb); have n1_ := Aside0.mk (Kd.R_elder' (by (with_reducible repeat (first | apply Kd.R_alloc | apply Kd.R_drewN | apply Kd.R_drew)); exact HO457.out) (Kd.Q_base ho0) hb); have n2_ := Aside0.mk (Kd.Q_lower (Kd.Q_new' (Kd.Q_new' ho0 (Kd.R_lt (by (with_reducible repeat (first | apply Kd.R_alloc | apply Kd.R_drewN | apply Kd.R_drew)); exact HO454.out))) (Kd.R_lt (by (with_reducible repeat (first | apply Kd.R_alloc | apply Kd.R_drewN | apply Kd.R_drew)); exact HO457.out))) (below_size (by repeat (first | (with_reducible first | exact HB.out | apply below_alloc | apply pw_below_drewN | apply below_drew1) | exact HB.out)))); have n3_ := Aside0.mk (below_step (by repeat (first | (with_reducible first | exact HB.out | apply below_alloc | apply pw_below_drewN | apply below_drew1) | exact HB.out)) hb); clear HO454; clear HO457; clear HB; have HO454 := n0_; have HO457 := n1_; have HO461 := n2_; have HB := n3_; clear n0_ n1_ n2_ n3_; (try clear hb); (try clear hb2); (try clear hk); (try clear hi); (try clear ho0); (try simp only [errW_none, errW_some])) | ((with_reducible refine gate_callee (f := 26) rfl ?_); refine goesL_ (some 36) rfl rfl Try.func26 (by kernel_rfl) rfl #[.slice A0 l0.length c0, .slice A1 l1.length c1] rfl (by (try simp only [List.map_toArray, List.map_cons, List.map_nil]); first | done | rfl | (simp only [List.length_drop, List.length_take]; rfl)) ?_; (with_reducible refine (numeralref02_Add.calls k _ _ l0 _ _ l1 t462 t463 _ ?side1 ?side2 ?side3 ?side4 A6.out).mono ?_); (case side1 => repeat (first | exact (Kd.C_below HR0.out HB.out) | (with_reducible refine Kd.C_alloc ?_ _) | (with_reducible refine Kd.C_drewN ?_ _) | (with_reducible refine Kd.C_drew ?_))); (case side2 => exact HC0.out); (case side3 => repeat (first | exact (Kd.C_below HR1.out HB.out) | (with_reducible refine Kd.C_alloc ?_ _) | (with_reducible refine Kd.C_drewN ?_ _) | (with_reducible refine Kd.C_drew ?_))); (case side4 => exact HC1.out); rintro e w18 ⟨v464, rfl, ho0, hb⟩; refine ⟨_, rfl, ?_⟩; have n0_ := Aside0.mk (Kd.R_elder' (by (with_reducible repeat (first | apply Kd.R_alloc | apply Kd.R_drewN | apply Kd.R_drew)); exact HO454.out) (Kd.R_base ho0) hb); have n1_ := Aside0.mk (Kd.R_elder' (by (with_reducible repeat (first | apply Kd.R_alloc | apply Kd.R_drewN | apply Kd.R_drew)); exact HO457.out) (Kd.R_base ho0) hb); have n2_ := Aside0.mk (Kd.Q_elder' (by (with_reducible repeat (first | apply Kd.Q_alloc | apply Kd.Q_drewN | apply Kd.Q_drew)); exact HO461.out) (Kd.R_base ho0) hb); have n3_ := Aside0.mk (Kd.R_lower (Kd.R_new' (Kd.R_new' (Kd.R_new' ho0 (Kd.R_lt (by (with_reducible repeat (first | apply Kd.R_alloc | apply Kd.R_drewN | apply Kd.R_drew)); exact HO454.out))) (Kd.R_lt (by (with_reducible repeat (first | apply Kd.R_alloc | apply Kd.R_drewN | apply Kd.R_drew)); exact HO457.out))) (Kd.Q_lt (by (with_reducible repeat (first | apply Kd.Q_alloc | apply Kd.Q_drewN | apply Kd.Q_drew)); exact HO461.out))) (below_size (by repeat (first | (with_reducible first | exact HB.out | apply below_alloc | apply pw_below_drewN | apply below_drew1) | exact HB.out)))); have n4_ := Aside0.mk (below_step (by repeat (first | (with_reducible first | exact HB.out | apply below_alloc | apply pw_below_drewN | apply below_drew1) | exact HB.out)) hb); clear HO454; clear HO457; clear HO461; clear HB; have HO454 := n0_; have HO457 := n1_; have HO461 := n2_; have HO465 := n3_; have HB := n4_; clear n0_ n1_ n2_ n3_ n4_; (try clear hb); (try clear hb2); (try clear hk); (try clear hi); (try clear ho0)) | ((with_reducible refine gate_callee (f := 24) rfl ?_); refine goesL_ (some 42) rfl rfl Try.func24 (by kernel_rfl) rfl #[.slice Ao15 t452.length co15, .slice Ao16 t455.length co16] rfl (by (try simp only [List.map_toArray, List.map_cons, List.map_nil]); first | done | rfl | (simp only [List.length_drop, List.length_take]; rfl)) ?_; (with_reducible refine (nat_Sub.calls k _ _ t452 _ _ t455 t466 t467 _ ?side1 ?side2 ?side3 ?side4 A7.out).mono ?_); (case side1 => repeat (first | exact (Kd.R_reads' HO454.out).2.2 | (with_reducible refine Kd.C_alloc ?_ _) | (with_reducible refine Kd.C_drewN ?_ _) | (with_reducible refine Kd.C_drew ?_))); (case side2 => exact (Kd.R_reads' HO454.out).2.1); (case side3 => repeat (first | exact (Kd.R_reads' HO457.out).2.2 | (with_reducible refine Kd.C_alloc ?_ _) | (with_reducible refine Kd.C_drewN ?_ _) | (with_reducible refine Kd.C_drew ?_))); (case side4 => exact (Kd.R_reads' HO457.out).2.1); rintro e w19 ⟨v468, rfl, ho0, hb⟩; refine ⟨_, rfl, ?_⟩; have n0_ := Aside0.mk (Kd.R_elder' (by (with_reducible repeat (first | apply Kd.R_alloc | apply Kd.R_drewN | apply Kd.R_drew)); exact HO454.out) (Kd.Q_base ho0) hb); have n1_ := Aside0.mk (Kd.R_elder' (by (with_reducible repeat (first | apply Kd.R_alloc | apply Kd.R_drewN | apply Kd.R_drew)); exact HO457.out) (Kd.Q_base ho0) hb); have n2_ := Aside0.mk (Kd.Q_elder' (by (with_reducible repeat (first | apply Kd.Q_alloc | apply Kd.Q_drewN | apply Kd.Q_drew)); exact HO461.out) (Kd.Q_base ho0) hb); have n3_ := Aside0.mk (Kd.R_elder' (by (with_reducible repeat (first | apply Kd.R_alloc | apply Kd.R_drewN | apply Kd.R_drew)); exact HO465.out) (Kd.Q_base ho0) hb); have n4_ := Aside0.mk (Kd.Q_lower (Kd.Q_new' (Kd.Q_new' (Kd.Q_new' (Kd.Q_new' ho0 (Kd.R_lt (by (with_reducible repeat (first | apply Kd.R_alloc | apply Kd.R_drewN | apply Kd.R_drew)); exact HO454.out))) (Kd.R_lt (by (with_reducible repeat (first | apply Kd.R_alloc | apply Kd.R_drewN | apply Kd.R_drew)); exact HO457.out))) (Kd.Q_lt (by (with_reducible repeat (first | apply Kd.Q_alloc | apply Kd.Q_drewN | apply Kd.Q_drew)); exact HO461.out))) (Kd.R_lt (by (with_reducible repeat (first | apply Kd.R_alloc | apply Kd.R_drewN | apply Kd.R_drew)); exact HO465.out))) (below_size (by repeat (first | (with_reducible first | exact HB.out | apply below_alloc | apply pw_below_drewN | apply below_drew1) | exact HB.out)))); have n5_ := Aside0.mk (below_step (by repeat (first | (with_reducible first | exact HB.out | apply below_alloc | apply pw_below_drewN | apply below_drew1) | exact HB.out)) hb); clear HO454; clear HO457; clear HO461; clear HO465; clear HB; have HO454 := n0_; have HO457 := n1_; have HO461 := n2_; have HO465 := n3_; have HO469 := n4_; have HB := n5_; clear n0_ n1_ n2_ n3_ n4_ n5_; (try clear hb); (try clear hb2); (try clear hk); (try clear hi); (try clear ho0); (try simp only [errW_none, errW_some])) | ((with_reducible refine gate_callee (f := 27) rfl ?_); refine goesL_ (some 48) rfl rfl Try.func27 (by kernel_rfl) rfl #[.slice A0 l0.length c0, .slice A1 l1.length c1] rfl (by (try simp only [List.map_toArray, List.map_cons, List.map_nil]); first | done | rfl | (simp only [List.length_drop, List.length_take]; rfl)) ?_; (with_reducible refine (numeralref02_Sub.calls k _ _ l0 _ _ l1 t470 t471 _ ?side1 ?side2 ?side3 ?side4 A8.out).mono ?_); (case side1 => repeat (first | exact (Kd.C_below HR0.out HB.out) | (with_reducible refine Kd.C_alloc ?_ _) | (with_reducible refine Kd.C_drewN ?_ _) | (with_reducible refine Kd.C_drew ?_))); (case side2 => exact HC0.out); (case side3 => repeat (first | exact (Kd.C_below HR1.out HB.out) | (with_reducible refine Kd.C_alloc ?_ _) | (with_reducible refine Kd.C_drewN ?_ _) | (with_reducible refine Kd.C_drew ?_))); (case side4 => exact HC1.out); rintro e w20 ⟨v472, rfl, ho0, hb⟩; refine ⟨_, rfl, ?_⟩; have n0_ := Aside0.mk (Kd.R_elder' (by (with_reducible repeat (first | apply Kd.R_alloc | apply Kd.R_drewN | apply Kd.R_drew)); exact HO454.out) (Kd.R_base ho0) hb); have n1_ := Aside0.mk (Kd.R_elder' (by (with_reducible repeat (first | apply Kd.R_alloc | apply Kd.R_drewN | apply Kd.R_drew)); exact HO457.out) (Kd.R_base ho0) hb); have n2_ := Aside0.mk (Kd.Q_elder' (by (with_reducible repeat (first | apply Kd.Q_alloc | apply Kd.Q_drewN | apply Kd.Q_drew)); exact HO461.out) (Kd.R_base ho0) hb); have n3_ := Aside0.mk (Kd.R_elder' (by (with_reducible repeat (first | apply Kd.R_alloc | apply Kd.R_drewN | apply Kd.R_drew)); exact HO465.out) (Kd.R_base ho0) hb); have n4_ := Aside0.mk (Kd.Q_elder' (by (with_reducible repeat (first | apply Kd.Q_alloc | apply Kd.Q_drewN | apply Kd.Q_drew)); exact HO469.out) (Kd.R_base ho0) hb); have n5_ := Aside0.mk (Kd.R_lower (Kd.R_new' (Kd.R_new' (Kd.R_new' (Kd.R_new' (Kd.R_new' ho0 (Kd.R_lt (by (with_reducible repeat (first | apply Kd.R_alloc | apply Kd.R_drewN | apply Kd.R_drew)); exact HO454.out))) (Kd.R_lt (by (with_reducible repeat (first | apply Kd.R_alloc | apply Kd.R_drewN | apply Kd.R_drew)); exact HO457.out))) (Kd.Q_lt (by (with_reducible repeat (first | apply Kd.Q_alloc | apply Kd.Q_drewN | apply Kd.Q_drew)); exact HO461.out))) (Kd.R_lt (by (with_reducible repeat (first | apply Kd.R_alloc | apply Kd.R_drewN | apply Kd.R_drew)); exact HO465.out))) (Kd.Q_lt (by (with_reducible repeat (first | apply Kd.Q_alloc | apply Kd.Q_drewN | apply Kd.Q_drew)); exact HO469.out))) (below_size (by repeat (first | (with_reducible first | exact HB.out | apply below_alloc | apply pw_below_drewN | apply below_drew1) | exact HB.out)))); have n6_ := Aside0.mk (below_step (by repeat (first | (with_reducible first | exact HB.out | apply below_alloc | apply pw_below_drewN | apply below_drew1) | exact HB.out)) hb); clear HO454; clear HO457; clear HO461; clear HO465; clear HO469; clear HB; have HO454 := n0_; have HO457 := n1_; have HO461 := n2_; have HO465 := n3_; have HO469 := n4_; have HO473 := n5_; have HB := n6_; clear n0_ n1_ n2_ n3_ n4_ n5_ n6_; (try clear hb); (try clear hb2); (try clear hk); (try clear hi); (try clear ho0)) | ((with_reducible refine gate_callee (f := 25) rfl ?_); refine goesL_ (some 54) rfl rfl Try.func25 (by kernel_rfl) rfl #[.slice Ao15 t452.length co15, .slice Ao16 t455.length co16] rfl (by (try simp only [List.map_toArray, List.map_cons, List.map_nil]); first | done | rfl | (simp only [List.length_drop, List.length_take]; rfl)) ?_; (with_reducible refine (nat_Cmp.calls k _ _ t452 _ _ t455 t474 t475 _ ?side1 ?side2 ?side3 ?side4 A9.out).mono ?_); (case side1 => repeat (first | exact (Kd.R_reads' HO454.out).2.2 | (with_reducible refine Kd.C_alloc ?_ _) | (with_reducible refine Kd.C_drewN ?_ _) | (with_reducible refine Kd.C_drew ?_))); (case side2 => exact (Kd.R_reads' HO454.out).2.1); (case side3 => repeat (first | exact (Kd.R_reads' HO457.out).2.2 | (with_reducible refine Kd.C_alloc ?_ _) | (with_reducible refine Kd.C_drewN ?_ _) | (with_reducible refine Kd.C_drew ?_))); (case side4 => exact (Kd.R_reads' HO457.out).2.1); rintro e w' ⟨rfl, ⟨nd, rfl⟩⟩; refine ⟨_, rfl, ?_⟩; (try simp only [errW_none, errW_some])) | ((with_reducible refine gate_callee (f := 28) rfl ?_); refine goesL_ (some 60) rfl rfl Try.func28 (by kernel_rfl) rfl #[.slice A0 l0.length c0, .slice A1 l1.length c1] rfl (by (try simp only [List.map_toArray, List.map_cons, List.map_nil]); first | done | rfl | (simp only [List.length_drop, List.length_take]; rfl)) ?_; (with_reducible refine (numeralref02_Cmp.calls k _ _ l0 _ _ l1 t476 t477 _ ?side1 ?side2 ?side3 ?side4 A10.out).mono ?_); (case side1 => repeat (first | exact (Kd.C_below HR0.out (by repeat (first | (with_reducible first | exact HB.out | apply below_alloc | apply pw_below_drewN | apply below_drew1) | exact HB.out))) | (with_reducible refine Kd.C_alloc ?_ _) | (with_reducible refine Kd.C_drewN ?_ _) | (with_reducible refine Kd.C_drew ?_))); (case side2 => exact HC0.out); (case side3 => repeat (first | exact (Kd.C_below HR1.out (by repeat (first | (with_reducible first | exact HB.out | apply below_alloc | apply pw_below_drewN | apply below_drew1) | exact HB.out))) | (with_reducible refine Kd.C_alloc ?_ _) | (with_reducible refine Kd.C_drewN ?_ _) | (with_reducible refine Kd.C_drew ?_))); (case side4 => exact HC1.out); rintro e w21 ⟨rfl, hb⟩; refine ⟨_, rfl, ?_⟩; have n0_ := Aside0.mk (Kd.R_below (by (with_reducible repeat (first | apply Kd.R_alloc | apply Kd.R_drewN | apply Kd.R_drew)); exact HO454.out) hb); have n1_ := Aside0.mk (Kd.R_below (by (with_reducible repeat (first | apply Kd.R_alloc | apply Kd.R_drewN | apply Kd.R_drew)); exact HO457.out) hb); have n2_ := Aside0.mk (Kd.Q_below (by (with_reducible repeat (first | apply Kd.Q_alloc | apply Kd.Q_drewN | apply Kd.Q_drew)); exact HO461.out) hb); have n3_ := Aside0.mk (Kd.R_below (by (with_reducible repeat (first | apply Kd.R_alloc | apply Kd.R_drewN | apply Kd.R_drew)); exact HO465.out) hb); have n4_ := Aside0.mk (Kd.Q_below (by (with_reducible repeat (first | apply Kd.Q_alloc | apply Kd.Q_drewN | apply Kd.Q_drew)); exact HO469.out) hb); have n5_ := Aside0.mk (Kd.R_below (by (with_reducible repeat (first | apply Kd.R_alloc | apply Kd.R_drewN | apply Kd.R_drew)); exact HO473.out) hb); have n6_ := Aside0.mk (below_step (by repeat (first | (with_reducible first | exact HB.out | apply below_alloc | apply pw_below_drewN | apply below_drew1) | exact HB.out)) hb); clear HO454; clear HO457; clear HO461; clear HO465; clear HO469; clear HO473; clear HB; have HO454 := n0_; have HO457 := n1_; have HO461 := n2_; have HO465 := n3_; have HO469 := n4_; have HO473 := n5_; have HB := n6_; clear n0_ n1_ n2_ n3_ n4_ n5_ n6_; (try clear hb); (try clear hb2); (try clear hk); (try clear hi)) | ((with_reducible refine gate_callee (f := 29) rfl ?_); refine goesL_ (some 65) rfl rfl Try.func29 (by kernel_rfl) rfl #[.slice Ao15 t452.length co15] rfl (by (try simp only [List.map_toArray, List.map_cons, List.map_nil]); first | done | rfl | (simp only [List.length_drop, List.length_take]; rfl)) ?_; (with_reducible refine (nat_Word.calls k _ _ t452 t478 t479 _ ?side1 ?side2 A11.out).mono ?_); (case side1 => repeat (first | exact (Kd.R_reads' HO454.out).2.2 | (with_reducible refine Kd.C_alloc ?_ _) | (with_reducible refine Kd.C_drewN ?_ _) | (with_reducible refine Kd.C_drew ?_))); (case side2 => exact (Kd.R_reads' HO454.out).2.1); rintro e w' ⟨rfl, ⟨nd, rfl⟩⟩; refine ⟨_, rfl, ?_⟩))
  (try simp only [Act.put, List.setIfInBounds_toArray, List.set_cons_zero, List.set_cons_succ])
  go_cut [21, 22] (fun v21 v22 wc => ∃ (kq : Nat) (x21_11 : Int) (x22_11 : Bool), v21 = .int .u64 x21_11 ∧ v22 = .bool x22_11 ∧ Aside0 (numerallaw02_NatSums.j0 kq l0 l1 t452 t455 t458 t459 t462 t463 t466 t467 t470 t471 t474 t475 t476 t477 t478 t479 x21_11 x22_11 = some r) ∧ Aside0 (kq ≤ k) ∧ Aside0 (Kd.R (Kd.int .u64) 38 wc w.heap.size (fun k_ => some k_ ≠ ((.slice Ao16 t455.length co16) : Value).ownBlock ∧ some k_ ≠ (v460 : Value).ownBlock ∧ some k_ ≠ (v464 : Value).ownBlock ∧ some k_ ≠ (v468 : Value).ownBlock ∧ some k_ ≠ (v472 : Value).ownBlock) (.slice Ao15 t452.length co15) t452) ∧ Aside0 (Kd.R (Kd.int .u64) 38 wc w.heap.size (fun k_ => some k_ ≠ ((.slice Ao15 t452.length co15) : Value).ownBlock ∧ some k_ ≠ (v460 : Value).ownBlock ∧ some k_ ≠ (v464 : Value).ownBlock ∧ some k_ ≠ (v468 : Value).ownBlock ∧ some k_ ≠ (v472 : Value).ownBlock) (.slice Ao16 t455.length co16) t455) ∧ Aside0 (Kd.Q (Kd.int .u64) 38 wc w.heap.size (fun k_ => some k_ ≠ ((.slice Ao15 t452.length co15) : Value).ownBlock ∧ some k_ ≠ ((.slice Ao16 t455.length co16) : Value).ownBlock ∧ some k_ ≠ (v464 : Value).ownBlock ∧ some k_ ≠ (v468 : Value).ownBlock ∧ some k_ ≠ (v472 : Value).ownBlock) v460 t458) ∧ Aside0 (Kd.R (Kd.int .u64) 38 wc w.heap.size (fun k_ => some k_ ≠ ((.slice Ao15 t452.length co15) : Value).ownBlock ∧ some k_ ≠ ((.slice Ao16 t455.length co16) : Value).ownBlock ∧ some k_ ≠ (v460 : Value).ownBlock ∧ some k_ ≠ (v468 : Value).ownBlock ∧ some k_ ≠ (v472 : Value).ownBlock) v464 t462) ∧ Aside0 (Kd.Q (Kd.int .u64) 38 wc w.heap.size (fun k_ => some k_ ≠ ((.slice Ao15 t452.length co15) : Value).ownBlock ∧ some k_ ≠ ((.slice Ao16 t455.length co16) : Value).ownBlock ∧ some k_ ≠ (v460 : Value).ownBlock ∧ some k_ ≠ (v464 : Value).ownBlock ∧ some k_ ≠ (v472 : Value).ownBlock) v468 t466) ∧ Aside0 (Kd.R (Kd.int .u64) 38 wc w.heap.size (fun k_ => some k_ ≠ ((.slice Ao15 t452.length co15) : Value).ownBlock ∧ some k_ ≠ ((.slice Ao16 t455.length co16) : Value).ownBlock ∧ some k_ ≠ (v460 : Value).ownBlock ∧ some k_ ≠ (v464 : Value).ownBlock ∧ some k_ ≠ (v468 : Value).ownBlock) v472 t470) ∧ Aside0 (Below w.heap.size w wc))
  case first =>
    have H := HC12.out
    clear HC12
    replace H := Option.bind_eq_some_iff.mp H
    obtain ⟨t480, A220, H⟩ := H
    replace H : (if t480 = 0 then (numerallaw02_NatSums.j0 k l0 l1 t452 t455 t458 t459 t462 t463 t466 t467 t470 t471 t474 t475 t476 t477 t478 t479 0 (decide ((l0.length : Int) ≤ 1))) else (numerallaw02_NatSums.j0 k l0 l1 t452 t455 t458 t459 t462 t463 t466 t467 t470 t471 t474 t475 t476 t477 t478 t479 0 false)) = some r := H
    have A22 := Aside0.mk A220
    clear A220
    by_cases c23 : t480 = 0
    · rw [if_pos c23] at H
      have c23b0 : (t480 == 0) = true := beq_iff_eq.mpr c23
      have c23b1 : (t480 != 0) = false := bne_eq_false_iff_eq.mpr c23
      clear c23
      (first | rw [c23b0] | (simp only [i64_w, i32_w]; rw [c23b0]) | skip)
      have H' := Aside0.mk H
      clear H
      go_wp2_with (first | ((with_reducible refine gate_callee (f := 22) rfl ?_); refine goesL_ (some 69) rfl rfl Try.func22 (by kernel_rfl) rfl #[.slice A0 l0.length c0] rfl (by (try simp only [List.map_toArray, List.map_cons, List.map_nil]); first | done | rfl | (simp only [List.length_drop, List.length_take]; rfl)) ?_; (with_reducible refine (numeralref02_Valid.calls _ _ l0 t480 _ ?side1 ?side2 A22.out).mono ?_); (case side1 => repeat (first | exact (Kd.C_below HR0.out HB.out) | (with_reducible refine Kd.C_alloc ?_ _) | (with_reducible refine Kd.C_drewN ?_ _) | (with_reducible refine Kd.C_drew ?_))); (case side2 => exact HC0.out); rintro e w' ⟨rfl, ⟨nd, rfl⟩⟩; refine ⟨_, rfl, ?_⟩))
      go_meet
      case rel => exact ⟨_, (0), (decide ((l0.length : Int) ≤ 1)), (by first | rfl | (simp; done) | (simp [*]; done)), (by first | rfl | (simp; done) | (simp [*]; done)), H', ⟨by first | omega | exact Nat.le_refl _⟩, ⟨by (with_reducible repeat (first | apply Kd.R_alloc | apply Kd.R_drewN | apply Kd.R_drew)); exact Kd.R_mono HO454.out (fun _ hk => ⟨hk.1.1.1.1.2, ⟨hk.1.1.1.2, ⟨hk.1.1.2, ⟨hk.1.2, hk.2⟩⟩⟩⟩)⟩, ⟨by (with_reducible repeat (first | apply Kd.R_alloc | apply Kd.R_drewN | apply Kd.R_drew)); exact Kd.R_mono HO457.out (fun _ hk => ⟨hk.1.1.1.1.2, ⟨hk.1.1.1.2, ⟨hk.1.1.2, ⟨hk.1.2, hk.2⟩⟩⟩⟩)⟩, ⟨by (with_reducible repeat (first | apply Kd.Q_alloc | apply Kd.Q_drewN | apply Kd.Q_drew)); exact Kd.Q_mono HO461.out (fun _ hk => ⟨hk.1.1.1.1.2, ⟨hk.1.1.1.2, ⟨hk.1.1.2, ⟨hk.1.2, hk.2⟩⟩⟩⟩)⟩, ⟨by (with_reducible repeat (first | apply Kd.R_alloc | apply Kd.R_drewN | apply Kd.R_drew)); exact Kd.R_mono HO465.out (fun _ hk => ⟨hk.1.1.1.1.2, ⟨hk.1.1.1.2, ⟨hk.1.1.2, ⟨hk.1.2, hk.2⟩⟩⟩⟩)⟩, ⟨by (with_reducible repeat (first | apply Kd.Q_alloc | apply Kd.Q_drewN | apply Kd.Q_drew)); exact Kd.Q_mono HO469.out (fun _ hk => ⟨hk.1.1.1.1.2, ⟨hk.1.1.1.2, ⟨hk.1.1.2, ⟨hk.1.2, hk.2⟩⟩⟩⟩)⟩, ⟨by (with_reducible repeat (first | apply Kd.R_alloc | apply Kd.R_drewN | apply Kd.R_drew)); exact Kd.R_mono HO473.out (fun _ hk => ⟨hk.1.1.1.1.2, ⟨hk.1.1.1.2, ⟨hk.1.1.2, ⟨hk.1.2, hk.2⟩⟩⟩⟩)⟩, ⟨by repeat (first | (with_reducible first | exact HB.out | apply below_alloc | apply pw_below_drewN | apply below_drew1) | exact HB.out)⟩⟩
    · rw [if_neg c23] at H
      have c23b0 : (t480 == 0) = false := beq_eq_false_iff_ne.mpr c23
      have c23b1 : (t480 != 0) = true := bne_iff_ne.mpr c23
      (first | rw [c23b0] | (simp only [i64_w, i32_w]; rw [c23b0]) | skip)
      have H' := Aside0.mk H
      clear H
      go_wp2_with (first | ((with_reducible refine gate_callee (f := 22) rfl ?_); refine goesL_ (some 69) rfl rfl Try.func22 (by kernel_rfl) rfl #[.slice A0 l0.length c0] rfl (by (try simp only [List.map_toArray, List.map_cons, List.map_nil]); first | done | rfl | (simp only [List.length_drop, List.length_take]; rfl)) ?_; (with_reducible refine (numeralref02_Valid.calls _ _ l0 t480 _ ?side1 ?side2 A22.out).mono ?_); (case side1 => repeat (first | exact (Kd.C_below HR0.out HB.out) | (with_reducible refine Kd.C_alloc ?_ _) | (with_reducible refine Kd.C_drewN ?_ _) | (with_reducible refine Kd.C_drew ?_))); (case side2 => exact HC0.out); rintro e w' ⟨rfl, ⟨nd, rfl⟩⟩; refine ⟨_, rfl, ?_⟩))
      go_meet
      case rel => exact ⟨_, (0), (false), (by first | rfl | (simp; done) | (simp [*]; done)), (by first | rfl | (simp; done) | (simp [*]; done)), H', ⟨by first | omega | exact Nat.le_refl _⟩, ⟨by (with_reducible repeat (first | apply Kd.R_alloc | apply Kd.R_drewN | apply Kd.R_drew)); exact Kd.R_mono HO454.out (fun _ hk => ⟨hk.1.1.1.1.2, ⟨hk.1.1.1.2, ⟨hk.1.1.2, ⟨hk.1.2, hk.2⟩⟩⟩⟩)⟩, ⟨by (with_reducible repeat (first | apply Kd.R_alloc | apply Kd.R_drewN | apply Kd.R_drew)); exact Kd.R_mono HO457.out (fun _ hk => ⟨hk.1.1.1.1.2, ⟨hk.1.1.1.2, ⟨hk.1.1.2, ⟨hk.1.2, hk.2⟩⟩⟩⟩)⟩, ⟨by (with_reducible repeat (first | apply Kd.Q_alloc | apply Kd.Q_drewN | apply Kd.Q_drew)); exact Kd.Q_mono HO461.out (fun _ hk => ⟨hk.1.1.1.1.2, ⟨hk.1.1.1.2, ⟨hk.1.1.2, ⟨hk.1.2, hk.2⟩⟩⟩⟩)⟩, ⟨by (with_reducible repeat (first | apply Kd.R_alloc | apply Kd.R_drewN | apply Kd.R_drew)); exact Kd.R_mono HO465.out (fun _ hk => ⟨hk.1.1.1.1.2, ⟨hk.1.1.1.2, ⟨hk.1.1.2, ⟨hk.1.2, hk.2⟩⟩⟩⟩)⟩, ⟨by (with_reducible repeat (first | apply Kd.Q_alloc | apply Kd.Q_drewN | apply Kd.Q_drew)); exact Kd.Q_mono HO469.out (fun _ hk => ⟨hk.1.1.1.1.2, ⟨hk.1.1.1.2, ⟨hk.1.1.2, ⟨hk.1.2, hk.2⟩⟩⟩⟩)⟩, ⟨by (with_reducible repeat (first | apply Kd.R_alloc | apply Kd.R_drewN | apply Kd.R_drew)); exact Kd.R_mono HO473.out (fun _ hk => ⟨hk.1.1.1.1.2, ⟨hk.1.1.1.2, ⟨hk.1.1.2, ⟨hk.1.2, hk.2⟩⟩⟩⟩)⟩, ⟨by repeat (first | (with_reducible first | exact HB.out | apply below_alloc | apply pw_below_drewN | apply below_drew1) | exact HB.out)⟩⟩
  case rest =>
    clear HC12
    try clear c1
    try clear c2
    try clear p2
    try clear c7
    try clear c9
    try clear c22
    try clear c23
    try clear c23b0
    try clear c23b1
    obtain ⟨kq, x21_11, x22_11, rfl, rfl, HA, HJ11, HO_5, HO_6, HO_7, HO_9, HO_11, HO_13, HB⟩ := hcut
    cases kq with
    | zero => exact absurd HA.out (by simp [numerallaw02_NatSums.j0])
    | succ kj11 =>
      have H := HA.out
      clear HA
      simp only [numerallaw02_NatSums.j0] at H
      have HC24 := Aside0.mk H
      clear H
      go_upto_region 10 with (fail)
      go_cut [81] (fun v81 wc => ∃ (kq : Nat) (x81_23 : Bool), v81 = .bool x81_23 ∧ Aside0 (numerallaw02_NatSums.j1 kq l0 l1 t452 t455 t458 t459 t462 t463 t466 t467 t470 t471 t474 t475 t476 t477 t478 t479 x21_11 x22_11 x81_23 = some r) ∧ Aside0 (kq ≤ kj11) ∧ Aside0 (Kd.R (Kd.int .u64) 38 wc w.heap.size (fun k_ => some k_ ≠ ((.slice Ao16 t455.length co16) : Value).ownBlock ∧ some k_ ≠ (v460 : Value).ownBlock ∧ some k_ ≠ (v464 : Value).ownBlock ∧ some k_ ≠ (v468 : Value).ownBlock ∧ some k_ ≠ (v472 : Value).ownBlock) (.slice Ao15 t452.length co15) t452) ∧ Aside0 (Kd.R (Kd.int .u64) 38 wc w.heap.size (fun k_ => some k_ ≠ ((.slice Ao15 t452.length co15) : Value).ownBlock ∧ some k_ ≠ (v460 : Value).ownBlock ∧ some k_ ≠ (v464 : Value).ownBlock ∧ some k_ ≠ (v468 : Value).ownBlock ∧ some k_ ≠ (v472 : Value).ownBlock) (.slice Ao16 t455.length co16) t455) ∧ Aside0 (Kd.Q (Kd.int .u64) 38 wc w.heap.size (fun k_ => some k_ ≠ ((.slice Ao15 t452.length co15) : Value).ownBlock ∧ some k_ ≠ ((.slice Ao16 t455.length co16) : Value).ownBlock ∧ some k_ ≠ (v464 : Value).ownBlock ∧ some k_ ≠ (v468 : Value).ownBlock ∧ some k_ ≠ (v472 : Value).ownBlock) v460 t458) ∧ Aside0 (Kd.R (Kd.int .u64) 38 wc w.heap.size (fun k_ => some k_ ≠ ((.slice Ao15 t452.length co15) : Value).ownBlock ∧ some k_ ≠ ((.slice Ao16 t455.length co16) : Value).ownBlock ∧ some k_ ≠ (v460 : Value).ownBlock ∧ some k_ ≠ (v468 : Value).ownBlock ∧ some k_ ≠ (v472 : Value).ownBlock) v464 t462) ∧ Aside0 (Kd.Q (Kd.int .u64) 38 wc w.heap.size (fun k_ => some k_ ≠ ((.slice Ao15 t452.length co15) : Value).ownBlock ∧ some k_ ≠ ((.slice Ao16 t455.length co16) : Value).ownBlock ∧ some k_ ≠ (v460 : Value).ownBlock ∧ some k_ ≠ (v464 : Value).ownBlock ∧ some k_ ≠ (v472 : Value).ownBlock) v468 t466) ∧ Aside0 (Kd.R (Kd.int .u64) 38 wc w.heap.size (fun k_ => some k_ ≠ ((.slice Ao15 t452.length co15) : Value).ownBlock ∧ some k_ ≠ ((.slice Ao16 t455.length co16) : Value).ownBlock ∧ some k_ ≠ (v460 : Value).ownBlock ∧ some k_ ≠ (v464 : Value).ownBlock ∧ some k_ ≠ (v468 : Value).ownBlock) v472 t470) ∧ Aside0 (Below w.heap.size w wc))
      case first =>
        have H := HC24.out
        clear HC24
        by_cases c25 : x22_11 = true
        · subst c25
          have H1 : (numerallaw02_NatSums.j1 kj11 l0 l1 t452 t455 t458 t459 t462 t463 t466 t467 t470 t471 t474 t475 t476 t477 t478 t479 x21_11 true ((l0.length : Int) == 1)) = some r := by rw [if_pos rfl] at H; exact H
          clear H
          have H := H1
          clear H1
          have H' := Aside0.mk H
          clear H
          go_wp2
          go_meet
          case rel => exact ⟨_, (((l0.length : Int) == 1)), (by first | rfl | (simp; done) | (simp [*]; done)), H', ⟨by have := HJ11.out; first | omega | exact Nat.le_refl _⟩, ⟨by (with_reducible repeat (first | apply Kd.R_alloc | apply Kd.R_drewN | apply Kd.R_drew)); exact HO_5.out⟩, ⟨by (with_reducible repeat (first | apply Kd.R_alloc | apply Kd.R_drewN | apply Kd.R_drew)); exact HO_6.out⟩, ⟨by (with_reducible repeat (first | apply Kd.Q_alloc | apply Kd.Q_drewN | apply Kd.Q_drew)); exact HO_7.out⟩, ⟨by (with_reducible repeat (first | apply Kd.R_alloc | apply Kd.R_drewN | apply Kd.R_drew)); exact HO_9.out⟩, ⟨by (with_reducible repeat (first | apply Kd.Q_alloc | apply Kd.Q_drewN | apply Kd.Q_drew)); exact HO_11.out⟩, ⟨by (with_reducible repeat (first | apply Kd.R_alloc | apply Kd.R_drewN | apply Kd.R_drew)); exact HO_13.out⟩, ⟨by repeat (first | (with_reducible first | exact HB.out | apply below_alloc | apply pw_below_drewN | apply below_drew1) | exact HB.out)⟩⟩
        · replace c25 := Bool.eq_false_iff.mpr c25
          subst c25
          have H1 : (numerallaw02_NatSums.j1 kj11 l0 l1 t452 t455 t458 t459 t462 t463 t466 t467 t470 t471 t474 t475 t476 t477 t478 t479 x21_11 false false) = some r := by rw [if_neg (show ¬ (false = true) by decide)] at H; exact H
          clear H
          have H := H1
          clear H1
          have H' := Aside0.mk H
          clear H
          go_wp2
          go_meet
          case rel => exact ⟨_, (false), (by first | rfl | (simp; done) | (simp [*]; done)), H', ⟨by have := HJ11.out; first | omega | exact Nat.le_refl _⟩, ⟨by (with_reducible repeat (first | apply Kd.R_alloc | apply Kd.R_drewN | apply Kd.R_drew)); exact HO_5.out⟩, ⟨by (with_reducible repeat (first | apply Kd.R_alloc | apply Kd.R_drewN | apply Kd.R_drew)); exact HO_6.out⟩, ⟨by (with_reducible repeat (first | apply Kd.Q_alloc | apply Kd.Q_drewN | apply Kd.Q_drew)); exact HO_7.out⟩, ⟨by (with_reducible repeat (first | apply Kd.R_alloc | apply Kd.R_drewN | apply Kd.R_drew)); exact HO_9.out⟩, ⟨by (with_reducible repeat (first | apply Kd.Q_alloc | apply Kd.Q_drewN | apply Kd.Q_drew)); exact HO_11.out⟩, ⟨by (with_reducible repeat (first | apply Kd.R_alloc | apply Kd.R_drewN | apply Kd.R_drew)); exact HO_13.out⟩, ⟨by repeat (first | (with_reducible first | exact HB.out | apply below_alloc | apply pw_below_drewN | apply below_drew1) | exact HB.out)⟩⟩
      case rest =>
        clear HC24
        try clear c1
        try clear c2
        try clear p2
        try clear c7
        try clear c9
        try clear c22
        try clear c23
        try clear c23b0
        try clear c23b1
        try clear c24
        try clear c25
        try clear p2
        obtain ⟨kq, x81_23, rfl, HA, HJ23, HO_5, HO_6, HO_7, HO_9, HO_11, HO_13, HB⟩ := hcut
        cases kq with
        | zero => exact absurd HA.out (by simp [numerallaw02_NatSums.j1])
        | succ kj23 =>
          have H := HA.out
          clear HA
          simp only [numerallaw02_NatSums.j1] at H
          have HC26 := Aside0.mk H
          clear H
          go_upto_if 81 with (fail)
          go_cut [21] (fun v21 wc => ∃ (kq : Nat) (x21_25 : Int), v21 = .int .u64 x21_25 ∧ Aside0 (numerallaw02_NatSums.j2 kq l0 l1 t452 t455 t458 t459 t462 t463 t466 t467 t470 t471 t474 t475 t476 t477 t478 t479 x21_25 x22_11 = some r) ∧ Aside0 (kq ≤ kj23) ∧ Aside0 (Kd.R (Kd.int .u64) 38 wc w.heap.size (fun k_ => some k_ ≠ ((.slice Ao16 t455.length co16) : Value).ownBlock ∧ some k_ ≠ (v460 : Value).ownBlock ∧ some k_ ≠ (v464 : Value).ownBlock ∧ some k_ ≠ (v468 : Value).ownBlock ∧ some k_ ≠ (v472 : Value).ownBlock) (.slice Ao15 t452.length co15) t452) ∧ Aside0 (Kd.R (Kd.int .u64) 38 wc w.heap.size (fun k_ => some k_ ≠ ((.slice Ao15 t452.length co15) : Value).ownBlock ∧ some k_ ≠ (v460 : Value).ownBlock ∧ some k_ ≠ (v464 : Value).ownBlock ∧ some k_ ≠ (v468 : Value).ownBlock ∧ some k_ ≠ (v472 : Value).ownBlock) (.slice Ao16 t455.length co16) t455) ∧ Aside0 (Kd.Q (Kd.int .u64) 38 wc w.heap.size (fun k_ => some k_ ≠ ((.slice Ao15 t452.length co15) : Value).ownBlock ∧ some k_ ≠ ((.slice Ao16 t455.length co16) : Value).ownBlock ∧ some k_ ≠ (v464 : Value).ownBlock ∧ some k_ ≠ (v468 : Value).ownBlock ∧ some k_ ≠ (v472 : Value).ownBlock) v460 t458) ∧ Aside0 (Kd.R (Kd.int .u64) 38 wc w.heap.size (fun k_ => some k_ ≠ ((.slice Ao15 t452.length co15) : Value).ownBlock ∧ some k_ ≠ ((.slice Ao16 t455.length co16) : Value).ownBlock ∧ some k_ ≠ (v460 : Value).ownBlock ∧ some k_ ≠ (v468 : Value).ownBlock ∧ some k_ ≠ (v472 : Value).ownBlock) v464 t462) ∧ Aside0 (Kd.Q (Kd.int .u64) 38 wc w.heap.size (fun k_ => some k_ ≠ ((.slice Ao15 t452.length co15) : Value).ownBlock ∧ some k_ ≠ ((.slice Ao16 t455.length co16) : Value).ownBlock ∧ some k_ ≠ (v460 : Value).ownBlock ∧ some k_ ≠ (v464 : Value).ownBlock ∧ some k_ ≠ (v472 : Value).ownBlock) v468 t466) ∧ Aside0 (Kd.R (Kd.int .u64) 38 wc w.heap.size (fun k_ => some k_ ≠ ((.slice Ao15 t452.length co15) : Value).ownBlock ∧ some k_ ≠ ((.slice Ao16 t455.length co16) : Value).ownBlock ∧ some k_ ≠ (v460 : Value).ownBlock ∧ some k_ ≠ (v464 : Value).ownBlock ∧ some k_ ≠ (v468 : Value).ownBlock) v472 t470) ∧ Aside0 (Below w.heap.size w wc))
          case first =>
            have H := HC26.out
            clear HC26
            by_cases c27 : x81_23 = true
            · subst c27
              have H1 : (if 0 < (l0.length : Int) then (numerallaw02_NatSums.j2 kj23 l0 l1 t452 t455 t458 t459 t462 t463 t466 t467 t470 t471 t474 t475 t476 t477 t478 t479 (rd l0 0) x22_11) else (none)) = some r := by rw [if_pos rfl] at H; exact H
              clear H
              have H := H1
              clear H1
              by_cases c28 : 0 < (l0.length : Int)
              · rw [if_pos c28] at H
                have c28b0 : decide (0 < (l0.length : Int)) = true := decide_eq_true c28
                have c28b1 : decide (0 < l0.length) = true := decide_eq_true (by omega)
                clear c28
                (first | rw [c28b0] | (simp only [i64_w, i32_w]; rw [c28b0]) | skip)
                have H' := Aside0.mk H
                clear H
                have p481 : 0 ≤ (0 : Int) := (by omega)
                have q481 : 0 < (l0.length : Int) := of_decide_eq_true (by first | (with_reducible assumption) | assumption)
                obtain ⟨ad481, e481, hx481_0⟩ := Kd.at_int HR0.out 0 p481 q481
                cases e481
                have qi481 : (0 < l0.length) = True := eq_true (by omega)
                (try rw [show ((0 : Int)).toNat = 0 from rfl] at hx481_0)
                (try rw [Addr.add_zero'] at hx481_0)
                replace hx481_0 := (HB.out.cell (World.block_lt_of_cell? w _ hx481_0)).trans hx481_0
                replace p481 := eq_true p481
                replace q481 := eq_true q481
                go_wp2
                go_meet
                case rel => exact ⟨_, (rd l0 0), (by first | rfl | (simp; done) | (simp [*]; done)), H', ⟨by have := HJ11.out; have := HJ23.out; first | omega | exact Nat.le_refl _⟩, ⟨by (with_reducible repeat (first | apply Kd.R_alloc | apply Kd.R_drewN | apply Kd.R_drew)); exact HO_5.out⟩, ⟨by (with_reducible repeat (first | apply Kd.R_alloc | apply Kd.R_drewN | apply Kd.R_drew)); exact HO_6.out⟩, ⟨by (with_reducible repeat (first | apply Kd.Q_alloc | apply Kd.Q_drewN | apply Kd.Q_drew)); exact HO_7.out⟩, ⟨by (with_reducible repeat (first | apply Kd.R_alloc | apply Kd.R_drewN | apply Kd.R_drew)); exact HO_9.out⟩, ⟨by (with_reducible repeat (first | apply Kd.Q_alloc | apply Kd.Q_drewN | apply Kd.Q_drew)); exact HO_11.out⟩, ⟨by (with_reducible repeat (first | apply Kd.R_alloc | apply Kd.R_drewN | apply Kd.R_drew)); exact HO_13.out⟩, ⟨by repeat (first | (with_reducible first | exact HB.out | apply below_alloc | apply pw_below_drewN | apply below_drew1) | exact HB.out)⟩⟩
              · rw [if_neg c28] at H
                exact absurd H (by simp)
            · replace c27 := Bool.eq_false_iff.mpr c27
              subst c27
              have H1 : (numerallaw02_NatSums.j2 kj23 l0 l1 t452 t455 t458 t459 t462 t463 t466 t467 t470 t471 t474 t475 t476 t477 t478 t479 x21_11 x22_11) = some r := by rw [if_neg (show ¬ (false = true) by decide)] at H; exact H
              clear H
              have H := H1
              clear H1
              have H' := Aside0.mk H
              clear H
              go_wp2
              go_meet
              case rel => exact ⟨_, (x21_11), (by first | rfl | (simp; done) | (simp [*]; done)), H', ⟨by have := HJ11.out; have := HJ23.out; first | omega | exact Nat.le_refl _⟩, ⟨by (with_reducible repeat (first | apply Kd.R_alloc | apply Kd.R_drewN | apply Kd.R_drew)); exact HO_5.out⟩, ⟨by (with_reducible repeat (first | apply Kd.R_alloc | apply Kd.R_drewN | apply Kd.R_drew)); exact HO_6.out⟩, ⟨by (with_reducible repeat (first | apply Kd.Q_alloc | apply Kd.Q_drewN | apply Kd.Q_drew)); exact HO_7.out⟩, ⟨by (with_reducible repeat (first | apply Kd.R_alloc | apply Kd.R_drewN | apply Kd.R_drew)); exact HO_9.out⟩, ⟨by (with_reducible repeat (first | apply Kd.Q_alloc | apply Kd.Q_drewN | apply Kd.Q_drew)); exact HO_11.out⟩, ⟨by (with_reducible repeat (first | apply Kd.R_alloc | apply Kd.R_drewN | apply Kd.R_drew)); exact HO_13.out⟩, ⟨by repeat (first | (with_reducible first | exact HB.out | apply below_alloc | apply pw_below_drewN | apply below_drew1) | exact HB.out)⟩⟩
          case rest =>
            clear HC26
            try clear c1
            try clear c2
            try clear p2
            try clear p4
            try clear q4
            try clear hx4
            try clear qi4
            try clear c7
            try clear c9
            try clear c22
            try clear c23
            try clear c23b0
            try clear c23b1
            try clear c24
            try clear c25
            try clear c26
            try clear c27
            try clear c28
            try clear c28b0
            try clear c28b1
            try clear hx481_0
            try clear p2
            try clear p481
            try clear q481
            obtain ⟨kq, x21_25, rfl, HA, HJ25, HO_5, HO_6, HO_7, HO_9, HO_11, HO_13, HB⟩ := hcut
            cases kq with
            | zero => exact absurd HA.out (by simp [numerallaw02_NatSums.j2])
            | succ kj25 =>
              have H := HA.out
              clear HA
              simp only [numerallaw02_NatSums.j2] at H
              replace H := Option.bind_eq_some_iff.mp H
              obtain ⟨t482, A290, H⟩ := H
              replace H : (if t482 = true then ((numerallaw02_num.f t459).bind fun t483 => (if t483 = t463 then ((numerallaw02_same.f kj25 t466 t470).bind fun t484 => (if t484 = true then ((numerallaw02_num.f t467).bind fun t485 => (if t485 = t471 then (if t474 = t476 then ((numerallaw02_num.f t475).bind fun t486 => (if t486 = t477 then ((nat_Valid.f t452).bind fun t487 => ((numerallaw02_num.f t487).bind fun t488 => ((numeralref02_Valid.f l0).bind fun t489 => (if t488 = t489 then (if t478 = x21_25 then (if (t479 == x22_11) = true then ((numerallaw02_same.f kj25 t452 l0).bind fun t490 => (if t490 = true then ((numerallaw02_same.f kj25 t455 l1).bind fun t491 => (if t491 = true then ((numerallaw02_works.f kj25).bind fun t492 => (some t492)) else (none))) else (none))) else (none)) else (none)) else (none))))) else (none))) else (none)) else (none))) else (none))) else (none))) else (none)) = some r := H
              have A29 := Aside0.mk A290
              clear A290
              by_cases c30 : t482 = true
              · subst c30
                have H1 : ((numerallaw02_num.f t459).bind fun t483 => (if t483 = t463 then ((numerallaw02_same.f kj25 t466 t470).bind fun t484 => (if t484 = true then ((numerallaw02_num.f t467).bind fun t485 => (if t485 = t471 then (if t474 = t476 then ((numerallaw02_num.f t475).bind fun t486 => (if t486 = t477 then ((nat_Valid.f t452).bind fun t487 => ((numerallaw02_num.f t487).bind fun t488 => ((numeralref02_Valid.f l0).bind fun t489 => (if t488 = t489 then (if t478 = x21_25 then (if (t479 == x22_11) = true then ((numerallaw02_same.f kj25 t452 l0).bind fun t490 => (if t490 = true then ((numerallaw02_same.f kj25 t455 l1).bind fun t491 => (if t491 = true then ((numerallaw02_works.f kj25).bind fun t492 => (some t492)) else (none))) else (none))) else (none)) else (none)) else (none))))) else (none))) else (none)) else (none))) else (none))) else (none))) = some r := by rw [if_pos rfl] at H; exact H
                clear H
                have H := H1
                clear H1
                replace H := Option.bind_eq_some_iff.mp H
                obtain ⟨t483, A310, H⟩ := H
                replace H : (if t483 = t463 then ((numerallaw02_same.f kj25 t466 t470).bind fun t484 => (if t484 = true then ((numerallaw02_num.f t467).bind fun t485 => (if t485 = t471 then (if t474 = t476 then ((numerallaw02_num.f t475).bind fun t486 => (if t486 = t477 then ((nat_Valid.f t452).bind fun t487 => ((numerallaw02_num.f t487).bind fun t488 => ((numeralref02_Valid.f l0).bind fun t489 => (if t488 = t489 then (if t478 = x21_25 then (if (t479 == x22_11) = true then ((numerallaw02_same.f kj25 t452 l0).bind fun t490 => (if t490 = true then ((numerallaw02_same.f kj25 t455 l1).bind fun t491 => (if t491 = true then ((numerallaw02_works.f kj25).bind fun t492 => (some t492)) else (none))) else (none))) else (none)) else (none)) else (none))))) else (none))) else (none)) else (none))) else (none))) else (none)) = some r := H
                have A31 := Aside0.mk A310
                clear A310
                by_cases c32 : t483 = t463
                · rw [if_pos c32] at H
                  have c32b0 : (t483 == t463) = true := beq_iff_eq.mpr c32
                  have c32b1 : (t483 != t463) = false := bne_eq_false_iff_eq.mpr c32
                  clear c32
                  replace H := Option.bind_eq_some_iff.mp H
                  obtain ⟨t484, A330, H⟩ := H
                  replace H : (if t484 = true then ((numerallaw02_num.f t467).bind fun t485 => (if t485 = t471 then (if t474 = t476 then ((numerallaw02_num.f t475).bind fun t486 => (if t486 = t477 then ((nat_Valid.f t452).bind fun t487 => ((numerallaw02_num.f t487).bind fun t488 => ((numeralref02_Valid.f l0).bind fun t489 => (if t488 = t489 then (if t478 = x21_25 then (if (t479 == x22_11) = true then ((numerallaw02_same.f kj25 t452 l0).bind fun t490 => (if t490 = true then ((numerallaw02_same.f kj25 t455 l1).bind fun t491 => (if t491 = true then ((numerallaw02_works.f kj25).bind fun t492 => (some t492)) else (none))) else (none))) else (none)) else (none)) else (none))))) else (none))) else (none)) else (none))) else (none)) = some r := H
                  have A33 := Aside0.mk A330
                  clear A330
                  by_cases c34 : t484 = true
                  · subst c34
                    have H1 : ((numerallaw02_num.f t467).bind fun t485 => (if t485 = t471 then (if t474 = t476 then ((numerallaw02_num.f t475).bind fun t486 => (if t486 = t477 then ((nat_Valid.f t452).bind fun t487 => ((numerallaw02_num.f t487).bind fun t488 => ((numeralref02_Valid.f l0).bind fun t489 => (if t488 = t489 then (if t478 = x21_25 then (if (t479 == x22_11) = true then ((numerallaw02_same.f kj25 t452 l0).bind fun t490 => (if t490 = true then ((numerallaw02_same.f kj25 t455 l1).bind fun t491 => (if t491 = true then ((numerallaw02_works.f kj25).bind fun t492 => (some t492)) else (none))) else (none))) else (none)) else (none)) else (none))))) else (none))) else (none)) else (none))) = some r := by rw [if_pos rfl] at H; exact H
                    clear H
                    have H := H1
                    clear H1
                    replace H := Option.bind_eq_some_iff.mp H
                    obtain ⟨t485, A350, H⟩ := H
                    replace H : (if t485 = t471 then (if t474 = t476 then ((numerallaw02_num.f t475).bind fun t486 => (if t486 = t477 then ((nat_Valid.f t452).bind fun t487 => ((numerallaw02_num.f t487).bind fun t488 => ((numeralref02_Valid.f l0).bind fun t489 => (if t488 = t489 then (if t478 = x21_25 then (if (t479 == x22_11) = true then ((numerallaw02_same.f kj25 t452 l0).bind fun t490 => (if t490 = true then ((numerallaw02_same.f kj25 t455 l1).bind fun t491 => (if t491 = true then ((numerallaw02_works.f kj25).bind fun t492 => (some t492)) else (none))) else (none))) else (none)) else (none)) else (none))))) else (none))) else (none)) else (none)) = some r := H
                    have A35 := Aside0.mk A350
                    clear A350
                    by_cases c36 : t485 = t471
                    · rw [if_pos c36] at H
                      have c36b0 : (t485 == t471) = true := beq_iff_eq.mpr c36
                      have c36b1 : (t485 != t471) = false := bne_eq_false_iff_eq.mpr c36
                      clear c36
                      by_cases c37 : t474 = t476
                      · rw [if_pos c37] at H
                        have c37b0 : (t474 == t476) = true := beq_iff_eq.mpr c37
                        have c37b1 : (t474 != t476) = false := bne_eq_false_iff_eq.mpr c37
                        clear c37
                        replace H := Option.bind_eq_some_iff.mp H
                        obtain ⟨t486, A380, H⟩ := H
                        replace H : (if t486 = t477 then ((nat_Valid.f t452).bind fun t487 => ((numerallaw02_num.f t487).bind fun t488 => ((numeralref02_Valid.f l0).bind fun t489 => (if t488 = t489 then (if t478 = x21_25 then (if (t479 == x22_11) = true then ((numerallaw02_same.f kj25 t452 l0).bind fun t490 => (if t490 = true then ((numerallaw02_same.f kj25 t455 l1).bind fun t491 => (if t491 = true then ((numerallaw02_works.f kj25).bind fun t492 => (some t492)) else (none))) else (none))) else (none)) else (none)) else (none))))) else (none)) = some r := H
                        have A38 := Aside0.mk A380
                        clear A380
                        by_cases c39 : t486 = t477
                        · rw [if_pos c39] at H
                          have c39b0 : (t486 == t477) = true := beq_iff_eq.mpr c39
                          have c39b1 : (t486 != t477) = false := bne_eq_false_iff_eq.mpr c39
                          clear c39
                          replace H := Option.bind_eq_some_iff.mp H
                          obtain ⟨t487, A400, H⟩ := H
                          replace H : ((numerallaw02_num.f t487).bind fun t488 => ((numeralref02_Valid.f l0).bind fun t489 => (if t488 = t489 then (if t478 = x21_25 then (if (t479 == x22_11) = true then ((numerallaw02_same.f kj25 t452 l0).bind fun t490 => (if t490 = true then ((numerallaw02_same.f kj25 t455 l1).bind fun t491 => (if t491 = true then ((numerallaw02_works.f kj25).bind fun t492 => (some t492)) else (none))) else (none))) else (none)) else (none)) else (none)))) = some r := H
                          have A40 := Aside0.mk A400
                          clear A400
                          replace H := Option.bind_eq_some_iff.mp H
                          obtain ⟨t488, A410, H⟩ := H
                          replace H : ((numeralref02_Valid.f l0).bind fun t489 => (if t488 = t489 then (if t478 = x21_25 then (if (t479 == x22_11) = true then ((numerallaw02_same.f kj25 t452 l0).bind fun t490 => (if t490 = true then ((numerallaw02_same.f kj25 t455 l1).bind fun t491 => (if t491 = true then ((numerallaw02_works.f kj25).bind fun t492 => (some t492)) else (none))) else (none))) else (none)) else (none)) else (none))) = some r := H
                          have A41 := Aside0.mk A410
                          clear A410
                          replace H := Option.bind_eq_some_iff.mp H
                          obtain ⟨t489, A420, H⟩ := H
                          replace H : (if t488 = t489 then (if t478 = x21_25 then (if (t479 == x22_11) = true then ((numerallaw02_same.f kj25 t452 l0).bind fun t490 => (if t490 = true then ((numerallaw02_same.f kj25 t455 l1).bind fun t491 => (if t491 = true then ((numerallaw02_works.f kj25).bind fun t492 => (some t492)) else (none))) else (none))) else (none)) else (none)) else (none)) = some r := H
                          have A42 := Aside0.mk A420
                          clear A420
                          by_cases c43 : t488 = t489
                          · rw [if_pos c43] at H
                            have c43b0 : (t488 == t489) = true := beq_iff_eq.mpr c43
                            have c43b1 : (t488 != t489) = false := bne_eq_false_iff_eq.mpr c43
                            clear c43
                            by_cases c44 : t478 = x21_25
                            · rw [if_pos c44] at H
                              have c44b0 : (t478 == x21_25) = true := beq_iff_eq.mpr c44
                              have c44b1 : (t478 != x21_25) = false := bne_eq_false_iff_eq.mpr c44
                              clear c44
                              by_cases c45 : (t479 == x22_11) = true
                              · rw [if_pos c45] at H
                                have c45b0 : (t479 == x22_11) = true := c45
                                (try (have c45b1 : decide (t479 = x22_11) = true := by simpa using c45))
                                (try (have c45b2 : (t479 == x22_11) = true := by simpa using c45))
                                clear c45
                                replace H := Option.bind_eq_some_iff.mp H
                                obtain ⟨t490, A460, H⟩ := H
                                replace H : (if t490 = true then ((numerallaw02_same.f kj25 t455 l1).bind fun t491 => (if t491 = true then ((numerallaw02_works.f kj25).bind fun t492 => (some t492)) else (none))) else (none)) = some r := H
                                have A46 := Aside0.mk A460
                                clear A460
                                by_cases c47 : t490 = true
                                · subst c47
                                  have H1 : ((numerallaw02_same.f kj25 t455 l1).bind fun t491 => (if t491 = true then ((numerallaw02_works.f kj25).bind fun t492 => (some t492)) else (none))) = some r := by rw [if_pos rfl] at H; exact H
                                  clear H
                                  have H := H1
                                  clear H1
                                  replace H := Option.bind_eq_some_iff.mp H
                                  obtain ⟨t491, A480, H⟩ := H
                                  replace H : (if t491 = true then ((numerallaw02_works.f kj25).bind fun t492 => (some t492)) else (none)) = some r := H
                                  have A48 := Aside0.mk A480
                                  clear A480
                                  by_cases c49 : t491 = true
                                  · subst c49
                                    have H1 : ((numerallaw02_works.f kj25).bind fun t492 => (some t492)) = some r := by rw [if_pos rfl] at H; exact H
                                    clear H
                                    have H := H1
                                    clear H1
                                    replace H := Option.bind_eq_some_iff.mp H
                                    obtain ⟨t492, A500, H⟩ := H
                                    replace H : (some t492) = some r := H
                                    have A50 := Aside0.mk A500
                                    clear A500
                                    obtain rfl := Option.some.inj H
                                    obtain ⟨Ao51, co51, eo51, _⟩ := Kd.Q_slice HO_7.out
                                    subst eo51
                                    obtain ⟨Ao52, co52, eo52⟩ := Kd.R_slice HO_9.out
                                    subst eo52
                                    go_wp2_with (first | ((with_reducible refine gate_callee (f := 14) rfl ?_); refine goesL_ (some 87) rfl rfl Try.func14 (by kernel_rfl) rfl #[.slice Ao51 t458.length co51, .slice Ao52 t462.length co52] rfl (by (try simp only [List.map_toArray, List.map_cons, List.map_nil]); first | done | rfl | (simp only [List.length_drop, List.length_take]; rfl)) ?_; (with_reducible refine (numerallaw02_same.calls kj25 _ _ t458 _ _ t462 true _ ?side1 ?side2 ?side3 ?side4 A29.out).mono ?_); (case side1 => repeat (first | exact (Kd.Q_reads' HO_7.out).2.2 | (with_reducible refine Kd.C_alloc ?_ _) | (with_reducible refine Kd.C_drewN ?_ _) | (with_reducible refine Kd.C_drew ?_))); (case side2 => exact (Kd.Q_reads' HO_7.out).2.1); (case side3 => repeat (first | exact (Kd.R_reads' HO_9.out).2.2 | (with_reducible refine Kd.C_alloc ?_ _) | (with_reducible refine Kd.C_drewN ?_ _) | (with_reducible refine Kd.C_drew ?_))); (case side4 => exact (Kd.R_reads' HO_9.out).2.1); rintro e w' ⟨rfl, ⟨nd, rfl⟩⟩; refine ⟨_, rfl, ?_⟩; have CA31 := fun W => numerallaw02_num.calls t459 t483 W A31.out; try simp only [errW_none, errW_some] at CA31) | (go_at_call 15; (with_reducible refine (CA31 _).mono ?_); rintro e w' ⟨rfl, ⟨nd, rfl⟩⟩; obtain ⟨Ao53, co53, eo53, _⟩ := Kd.Q_slice HO_11.out; subst eo53; obtain ⟨Ao54, co54, eo54⟩ := Kd.R_slice HO_13.out; subst eo54) | (go_at_call 14; (with_reducible refine (numerallaw02_same.calls kj25 _ _ t466 _ _ t470 true _ ?side1 ?side2 ?side3 ?side4 A33.out).mono ?_); (case side1 => repeat (first | exact (Kd.Q_reads' HO_11.out).2.2 | (with_reducible refine Kd.C_alloc ?_ _) | (with_reducible refine Kd.C_drewN ?_ _) | (with_reducible refine Kd.C_drew ?_))); (case side2 => exact (Kd.Q_reads' HO_11.out).2.1); (case side3 => repeat (first | exact (Kd.R_reads' HO_13.out).2.2 | (with_reducible refine Kd.C_alloc ?_ _) | (with_reducible refine Kd.C_drewN ?_ _) | (with_reducible refine Kd.C_drew ?_))); (case side4 => exact (Kd.R_reads' HO_13.out).2.1); rintro e w' ⟨rfl, ⟨nd, rfl⟩⟩; have CA35 := fun W => numerallaw02_num.calls t467 t485 W A35.out; try simp only [errW_none, errW_some] at CA35) | (go_at_call 15; (with_reducible refine (CA35 _).mono ?_); rintro e w' ⟨rfl, ⟨nd, rfl⟩⟩; have CA38 := fun W => numerallaw02_num.calls t475 t486 W A38.out; try simp only [errW_none, errW_some] at CA38) | (go_at_call 15; (with_reducible refine (CA38 _).mono ?_); rintro e w' ⟨rfl, ⟨nd, rfl⟩⟩) | (go_at_call 30; (with_reducible refine (nat_Valid.calls _ _ t452 t487 _ ?side1 ?side2 A40.out).mono ?_); (case side1 => repeat (first | exact (Kd.R_reads' HO_5.out).2.2 | (with_reducible refine Kd.C_alloc ?_ _) | (with_reducible refine Kd.C_drewN ?_ _) | (with_reducible refine Kd.C_drew ?_))); (case side2 => exact (Kd.R_reads' HO_5.out).2.1); rintro e w' ⟨rfl, ⟨nd, rfl⟩⟩; (try simp only [errW_none, errW_some]); have CA41 := fun W => numerallaw02_num.calls t487 t488 W A41.out; try simp only [errW_none, errW_some] at CA41) | (go_at_call 15; (with_reducible refine (CA41 _).mono ?_); rintro e w' ⟨rfl, ⟨nd, rfl⟩⟩) | (go_at_call 22; (with_reducible refine (numeralref02_Valid.calls _ _ l0 t489 _ ?side1 ?side2 A42.out).mono ?_); (case side1 => repeat (first | exact (Kd.C_below HR0.out (by repeat (first | (with_reducible first | exact HB.out | apply below_alloc | apply pw_below_drewN | apply below_drew1) | exact HB.out))) | (with_reducible refine Kd.C_alloc ?_ _) | (with_reducible refine Kd.C_drewN ?_ _) | (with_reducible refine Kd.C_drew ?_))); (case side2 => exact HC0.out); rintro e w' ⟨rfl, ⟨nd, rfl⟩⟩) | (go_at_call 14; (with_reducible refine (numerallaw02_same.calls kj25 _ _ t452 _ _ l0 true _ ?side1 ?side2 ?side3 ?side4 A46.out).mono ?_); (case side1 => repeat (first | exact (Kd.R_reads' HO_5.out).2.2 | (with_reducible refine Kd.C_alloc ?_ _) | (with_reducible refine Kd.C_drewN ?_ _) | (with_reducible refine Kd.C_drew ?_))); (case side2 => exact (Kd.R_reads' HO_5.out).2.1); (case side3 => repeat (first | exact (Kd.C_below HR0.out (by repeat (first | (with_reducible first | exact HB.out | apply below_alloc | apply pw_below_drewN | apply below_drew1) | exact HB.out))) | (with_reducible refine Kd.C_alloc ?_ _) | (with_reducible refine Kd.C_drewN ?_ _) | (with_reducible refine Kd.C_drew ?_))); (case side4 => exact HC0.out); rintro e w' ⟨rfl, ⟨nd, rfl⟩⟩) | (go_at_call 14; (with_reducible refine (numerallaw02_same.calls kj25 _ _ t455 _ _ l1 true _ ?side1 ?side2 ?side3 ?side4 A48.out).mono ?_); (case side1 => repeat (first | exact (Kd.R_reads' HO_6.out).2.2 | (with_reducible refine Kd.C_alloc ?_ _) | (with_reducible refine Kd.C_drewN ?_ _) | (with_reducible refine Kd.C_drew ?_))); (case side2 => exact (Kd.R_reads' HO_6.out).2.1); (case side3 => repeat (first | exact (Kd.C_below HR1.out (by repeat (first | (with_reducible first | exact HB.out | apply below_alloc | apply pw_below_drewN | apply below_drew1) | exact HB.out))) | (with_reducible refine Kd.C_alloc ?_ _) | (with_reducible refine Kd.C_drewN ?_ _) | (with_reducible refine Kd.C_drew ?_))); (case side4 => exact HC1.out); rintro e w' ⟨rfl, ⟨nd, rfl⟩⟩) | (go_at_call 16; (with_reducible refine (numerallaw02_works.calls kj25  t492 _ A50.out).mono ?_); rintro e w55 ⟨rfl, hb⟩; have n0_ := Aside0.mk (Kd.R_below (by (with_reducible repeat (first | apply Kd.R_alloc | apply Kd.R_drewN | apply Kd.R_drew)); exact HO_5.out) hb); have n1_ := Aside0.mk (Kd.R_below (by (with_reducible repeat (first | apply Kd.R_alloc | apply Kd.R_drewN | apply Kd.R_drew)); exact HO_6.out) hb); have n2_ := Aside0.mk (Kd.Q_below (by (with_reducible repeat (first | apply Kd.Q_alloc | apply Kd.Q_drewN | apply Kd.Q_drew)); exact HO_7.out) hb); have n3_ := Aside0.mk (Kd.R_below (by (with_reducible repeat (first | apply Kd.R_alloc | apply Kd.R_drewN | apply Kd.R_drew)); exact HO_9.out) hb); have n4_ := Aside0.mk (Kd.Q_below (by (with_reducible repeat (first | apply Kd.Q_alloc | apply Kd.Q_drewN | apply Kd.Q_drew)); exact HO_11.out) hb); have n5_ := Aside0.mk (Kd.R_below (by (with_reducible repeat (first | apply Kd.R_alloc | apply Kd.R_drewN | apply Kd.R_drew)); exact HO_13.out) hb); have n6_ := Aside0.mk (below_step (by repeat (first | (with_reducible first | exact HB.out | apply below_alloc | apply pw_below_drewN | apply below_drew1) | exact HB.out)) hb); clear HO_5; clear HO_6; clear HO_7; clear HO_9; clear HO_11; clear HO_13; clear HB; have HO_5 := n0_; have HO_6 := n1_; have HO_7 := n2_; have HO_9 := n3_; have HO_11 := n4_; have HO_13 := n5_; have HB := n6_; clear n0_ n1_ n2_ n3_ n4_ n5_ n6_; (try clear hb); (try clear hb2); (try clear hk); (try clear hi)))
                                    go_ret
                                    exact ⟨by first | rfl | (simp [errW_none, errW_some] <;> rfl) | (simp [*, errW_none, errW_some] <;> rfl), by repeat (first | (with_reducible first | exact HB.out | apply below_alloc | apply pw_below_drewN | apply below_drew1) | exact HB.out)⟩
                                  · replace c49 := Bool.eq_false_iff.mpr c49
                                    subst c49
                                    have H1 : (none) = some r := by rw [if_neg (show ¬ (false = true) by decide)] at H; exact H
                                    clear H
                                    have H := H1
                                    clear H1
                                    exact absurd H (by simp)
                                · replace c47 := Bool.eq_false_iff.mpr c47
                                  subst c47
                                  have H1 : (none) = some r := by rw [if_neg (show ¬ (false = true) by decide)] at H; exact H
                                  clear H
                                  have H := H1
                                  clear H1
                                  exact absurd H (by simp)
                              · rw [if_neg c45] at H
                                exact absurd H (by simp)
                            · rw [if_neg c44] at H
                              exact absurd H (by simp)
                          · rw [if_neg c43] at H
                            exact absurd H (by simp)
                        · rw [if_neg c39] at H
                          exact absurd H (by simp)
                      · rw [if_neg c37] at H
                        exact absurd H (by simp)
                    · rw [if_neg c36] at H
                      exact absurd H (by simp)
                  · replace c34 := Bool.eq_false_iff.mpr c34
                    subst c34
                    have H1 : (none) = some r := by rw [if_neg (show ¬ (false = true) by decide)] at H; exact H
                    clear H
                    have H := H1
                    clear H1
                    exact absurd H (by simp)
                · rw [if_neg c32] at H
                  exact absurd H (by simp)
              · replace c30 := Bool.eq_false_iff.mpr c30
                subst c30
                have H1 : (none) = some r := by rw [if_neg (show ¬ (false = true) by decide)] at H; exact H
                clear H
                have H := H1
                clear H1
                exact absurd H (by simp)

/-- THE ONE PURE STATEMENT of numerallaw02_NatSums: mine to prove. -/
def numerallaw02_NatSums.Pure : Prop := ∀ (l0 : List Int) (l1 : List Int), l0.length ≤ maxLen → l0.length * 8 ≤ 140737488351232 → (∀ x ∈ l0, (Lit.int .u64 x).wf = true) → l1.length ≤ maxLen → l1.length * 8 ≤ 140737488351232 → (∀ x ∈ l1, (Lit.int .u64 x).wf = true) → ∃ k, numerallaw02_NatSums.f k l0 l1 = some true
theorem numerallaw02_NatSums.walk (P : numerallaw02_NatSums.Pure) (a0 : Option Addr) (len0 cap0 : Nat) (z0 : List Int) (a1 : Option Addr) (len1 cap1 : Nat) (z1 : List Int) (w : World) (w0 : (a0 = none ∧ len0 = 0 ∧ cap0 = 0 ∧ z0 = []) ∨ ∃ x, a0 = some x ∧ len0 ≤ cap0 ∧ cap0 ≤ maxLen ∧ z0.length = cap0 ∧ (∀ i, i < z0.length → w.cell? (x.add i) = some (.int .u64 (z0.getD i 0))) ∧ ∀ n ∈ z0, (Lit.int .u64 n).wf = true) (y0 : len0 * 8 ≤ 140737488351232) (w1 : (a1 = none ∧ len1 = 0 ∧ cap1 = 0 ∧ z1 = []) ∨ ∃ x, a1 = some x ∧ len1 ≤ cap1 ∧ cap1 ≤ maxLen ∧ z1.length = cap1 ∧ (∀ i, i < z1.length → w.cell? (x.add i) = some (.int .u64 (z1.getD i 0))) ∧ ∀ n ∈ z1, (Lit.int .u64 n).wf = true) (y1 : len1 * 8 ≤ 140737488351232) :
    Calls Try.prog 7 #[.slice a0 len0 cap0, .slice a1 len1 cap1] w fun e w' => e = .returned (.bool true) ∧ Below w.heap.size w w' := by
  obtain ⟨l0, rfl, hr0, hm0, hw0, hc0⟩ := ReadsInt.ofRowC w0
  obtain ⟨l1, rfl, hr1, hm1, hw1, hc1⟩ := ReadsInt.ofRowC w1
  obtain ⟨k, h⟩ := P l0 l1 hm0 y0 hw0 hm1 y1 hw1
  refine (numerallaw02_NatSums.calls k _ _ l0 _ _ l1 true w (Kd.C_of_reads (d := (0 : Int)) (h1 := fun _ => rfl) hr0) hc0 (Kd.C_of_reads (d := (0 : Int)) (h1 := fun _ => rfl) hr1) hc1 h).mono ?_
  rintro e w' ⟨rfl, hd⟩
  exact ⟨rfl, hd⟩

end Go.Proofs.Ytemjpmgfbnlkjaa.Xa
